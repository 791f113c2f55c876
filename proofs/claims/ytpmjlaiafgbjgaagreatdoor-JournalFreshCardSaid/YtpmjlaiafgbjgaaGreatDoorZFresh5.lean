/- What the law's walk rests on, part 5: contracts of functions and plain facts. -/
import Derived.Test.YtpmjlaiafgbjgaaGreatDoorRows
import Derived.WalkKit
import Derived.WalkSpells
import Derived.WalkLawsBesides
import Derived.BigQuiet
import Derived.Lib.Hide
import Ieee.Arith
import Derived.Lib.TrailingZeros
import Derived.Lib.BitFns
import Derived.Lib.Strings
import Derived.Lib.Slices
import Derived.Lib.Small
import Derived.Lib.Walk
import Derived.OwnWalk
import Derived.Maps.AppendAt
import Derived.Laws.OwnMore
import Derived.Deep.AppendLies
import Derived.Deep.Draws
import Derived.OrdersHeld
import Derived.StillTail
import Derived.Deep.RegionHeld3
import Derived.Deep.DeepCutAuto
import Derived.IntWalk
import Derived.Maps.Range
import Derived.Maps.RangeWalk
import Derived.Laws.BytesArg
import Derived.Laws.Strings
import Derived.Lib.SlBytesConst
import Derived.RangeFuncNested
import Derived.RangeFuncBound
import Derived.RangeFuncCalls
import Derived.RangeFuncLeaves
import Derived.OwnWalkIn
import Derived.Shelf.Abstract
import Derived.Shelf.RegionOpen
import Derived.TacticsInMore
import Derived.LoopNIn
import Derived.LoopIn
import Derived.RangeFuncBox
import Derived.Laws.IdiomStrings
import Derived.ProofKit
import Derived.OpenShut
import Derived.ShutString
import Derived.ChangeOld
import Derived.ChangeSlices
import Derived.Below
import Derived.Carry
import Derived.SizedLaws
import Derived.Deep.DeepHandedRow
import Derived.Deep.Strs
import Derived.Lib.LaidTab
import Derived.Lib.SmallJoins
import Derived.Deep.Slices
import Derived.Test.YtpmjlaiafgbjgaaGreatDoorZFresh4
set_option linter.unusedVariables false
set_option linter.unusedSimpArgs false
section
namespace Go.Proofs.YtpmjlaiafgbjgaaGreatDoor
open Go.RowKit
theorem u8v_toArray (l : List Nat) : (u8v l).toArray.size = l.length := by unfold u8v; simp
theorem OwnB.lit (w : World) (base : Nat) (hb : base ≤ w.heap.size) (l : List Nat) (hl : l.length ≤ 1048576) : OwnB (w.alloc (.cells (u8v l).toArray 5)) base (.slice (some ⟨w.heap.size, 0, none⟩) l.length l.length) l := by
  have h := World.ownsRow_lit (base := base) (e := 5) (size := 1) w (u8v l).toArray l.length hb (by unfold maxLen; omega) (by rw [u8v_toArray]; omega)
  unfold OwnB
  simpa using h
set_option maxRecDepth 100000 in
set_option maxHeartbeats 1000000 in
theorem Rlink_any (n : Nat) (hn : n < 4294967296) (A : Option Addr) (c : Nat) (l : List Nat) (hb : Bytes l) (hl : l.length ≤ 70368744177664) (w : World) (hr : SlAt w A (u8v l)) : Calls Tryz.prog 64 #[.int .u32 (n : Int), .slice A l.length c] w fun e w' => e = .returned (.int .u32 (linkV n l : Int)) ∧ Within w w' := by
  have W1 := Lib.hid (Rput4 w.heap.size (.slice none 0 0) [] n (by omega) (by simp) w (Nat.le_refl _) (OwnB.nil_ _ _))
  have HR := Lib.hid hr; have HB := Lib.hid hb; clear hr hb
  have cv : IntKind.u64.wrap (n : Int) = (n : Int) := by rw [IntKind.wrap_u64]; omega
  go_enter Tryz.func64, Tryz.ntmps64
  go_wp2_with fail
  refine W1.out.mono ?_; rintro e1 w1 ⟨v1, rfl, hO1, hB1⟩
  have hW1 : Within w w1 := hB1
  rw [List.nil_append] at hO1
  obtain ⟨v2, w2, hrun, hO2, hB2⟩ := run_app_u8 w1 w.heap.size v1 (leBytes 4 n) l hO1 A c (HR.out.of hW1) (by rw [leBytes_len]; omega) hW1.size
  obtain ⟨A1, c1, rfl, _, _, _⟩ := hO1.form
  obtain ⟨A2, c2, rfl, hc2, hs2, _⟩ := hO2.form
  have SU := Lib.hid (Rsum_any A2 c2 (leBytes 4 n ++ l) ((leBytes_bytes _ _).append HB.out) (by rw [List.length_append, leBytes_len]; omega) w2 hs2)
  have hW2 : Within w w2 := Below.trans hW1 hB2
  have RUN := Lib.hid hrun; have HW2 := Lib.hid hW2; clear hrun hW2 hO1 hO2 hs2 hc2 hB1 hB2 hW1
  obtain ⟨N, hN⟩ : ∃ N, (leBytes 4 n ++ l).length = N := ⟨_, rfl⟩
  rw [hN] at SU RUN
  obtain ⟨M, hM⟩ : ∃ M, (leBytes 4 n).length = M := ⟨_, rfl⟩
  rw [hM] at RUN ⊢
  clear hN hM
  go_wp2_with (at_builtin; refine wpList_append_run rfl (.tmp 7) (.tmp 8) 28 rfl _ _ rfl rfl RUN.out ?_)
  refine SU.out.mono ?_; rintro e3 w3 ⟨rfl, rfl⟩
  go_wp2
  go_ret
  exact ⟨rfl, HW2.out⟩
set_option maxRecDepth 100000 in
set_option maxHeartbeats 1000000 in
theorem Magic_any (w : World) : Calls Tryz.prog 43 #[] w fun e w' => ∃ v, e = .returned v ∧ OwnB w' w.heap.size v magicV ∧ Within w w' := by
  have HL := Lib.hid (OwnB.lit w w.heap.size (Nat.le_refl _) magicV (by decide))
  go_enter Tryz.func43, Tryz.ntmps43
  go_wp2
  go_ret
  exact ⟨_, rfl, HL.out, (Within.refl w).alloc _⟩
set_option maxRecDepth 100000 in
set_option maxHeartbeats 1000000 in
theorem start_any (w : World) : Calls Tryz.prog 44 #[] w fun e w' => e = .returned (.int .u32 (startV : Int)) ∧ Within w w' := by
  go_enter Tryz.func44, Tryz.ntmps44
  go_wp2_with fail
  refine (Magic_any w).mono ?_; rintro e1 w1 ⟨v1, rfl, hO1, h1⟩
  obtain ⟨A1, c1, rfl, hc1, hs1, _⟩ := hO1.form
  have SU := Lib.hid (Rsum_any A1 c1 magicV (by intro x hx; revert x; decide) (by decide) w1 hs1)
  clear hO1 hs1 hc1
  have e8 : magicV.length = 8 := rfl
  rw [e8] at SU ⊢
  clear e8
  go_wp2_with fail
  refine SU.out.mono ?_; rintro e2 w2 ⟨rfl, rfl⟩
  go_wp2
  go_ret
  exact ⟨rfl, h1⟩
set_option maxRecDepth 100000 in
set_option maxHeartbeats 1000000 in
theorem lay_any (r : Rec) (n last : Nat) (D : Option Addr) (c : Nat) (hk : r.kind < 256) (hn : n < 4294967296) (hl : last < 4294967296) (hd : r.data.length ≤ 1048576) (hb : Bytes r.data) (w : World) (hr : SlAt w D (u8v r.data)) : Calls Tryz.prog 57 #[.agg #[.int .i64 (r.kind : Int), .slice D r.data.length c], .int .i64 (n : Int), .int .u32 (last : Int)] w fun e w' => ∃ v, e = .returned (.tuple #[v, .int .u32 (nextV r n last : Int)]) ∧ OwnB w' w.heap.size v (layV r n last) ∧ Within w w' := by
  have hAb : Bytes (layA r n) := by
    unfold layA; refine Bytes.append (Bytes.append ?_ (leBytes_bytes _ _)) (leBytes_bytes _ _)
    intro x hx; rw [List.mem_singleton] at hx; omega
  have hBb : Bytes (layB r n last) := by unfold layB; exact Bytes.append (Bytes.append hAb (leBytes_bytes _ _)) hb
  have hAl := layA_len r n
  have hBl := layB_len r n last
  have hx1 := linkV_lt (last := last) hAb
  have hx2 : nextV r n last < 4294967296 := linkV_lt hBb
  have HAd : Hid (layA r n = [r.kind] ++ leBytes 4 n ++ leBytes 4 r.data.length) := Lib.hid rfl
  have HBd : Hid (layB r n last = layA r n ++ leBytes 4 (linkV last (layA r n)) ++ r.data) := Lib.hid rfl
  have HVd : Hid (layV r n last = layB r n last ++ leBytes 4 (nextV r n last)) := Lib.hid rfl
  have HNd : Hid (nextV r n last = linkV last (layB r n last)) := Lib.hid rfl
  obtain ⟨LA, hLA⟩ : ∃ x, x = layA r n := ⟨_, rfl⟩
  rw [← hLA] at HAd HBd hAb hAl hx1
  clear hLA
  obtain ⟨LB, hLB⟩ : ∃ x, x = layB r n last := ⟨_, rfl⟩
  rw [← hLB] at HBd HVd hBb hBl HNd
  clear hLB
  obtain ⟨LV, hLV⟩ : ∃ x, x = layV r n last := ⟨_, rfl⟩
  rw [← hLV] at HVd ⊢
  clear hLV
  obtain ⟨nx, hnx⟩ : ∃ x, x = nextV r n last := ⟨_, rfl⟩
  rw [← hnx] at HVd HNd hx2 ⊢
  clear hnx
  obtain ⟨kd, hK⟩ : ∃ kd, kd = r.kind := ⟨_, rfl⟩
  rw [← hK] at hk HAd ⊢
  clear hK
  obtain ⟨dd, hdd⟩ : ∃ dd, dd = r.data := ⟨_, rfl⟩
  rw [← hdd] at hd hb hr HAd HBd hBl ⊢
  clear hdd
  obtain ⟨N, hN⟩ : ∃ N, dd.length = N := ⟨_, rfl⟩
  rw [hN] at hd HAd hBl ⊢
  have HN := Lib.hid hN
  clear hN
  obtain ⟨lk, hlk⟩ : ∃ x, x = linkV last LA := ⟨_, rfl⟩
  rw [← hlk] at HBd hx1
  have HLK := Lib.hid hlk
  clear hlk
  have HAB := Lib.hid hAb; have HBB := Lib.hid hBb; have HR := Lib.hid hr; have HDB := Lib.hid hb; clear hAb hBb hr hb
  have ck : IntKind.u8.wrap (kd : Int) = (kd : Int) := by rw [IntKind.wrap_u8]; omega
  have cn : IntKind.u32.wrap (n : Int) = (n : Int) := by rw [IntKind.wrap_u32]; omega
  have cN : IntKind.u32.wrap (N : Int) = (N : Int) := by rw [IntKind.wrap_u32]; omega
  obtain ⟨W0, hW0⟩ : ∃ W0, W0 = w.alloc (.cells #[.int .i64 (kd : Int), .slice D N c] 30) := ⟨_, rfl⟩
  have k0 : W0.cell? ⟨w.heap.size, 0, none⟩ = some (.int .i64 (kd : Int)) := by rw [hW0]; simp
  have k1 : W0.cell? ⟨w.heap.size, 1, none⟩ = some (.slice D N c) := by rw [hW0]; simp
  have kb : w.heap.size < W0.heap.size := by rw [hW0]; simp
  have hww : Within w W0 := by rw [hW0]; exact (Within.refl w).alloc _
  have HWW := Lib.hid hww; clear hww
  go_enter Tryz.func57, Tryz.ntmps57
  go_wp2_with fail
  rw [← hW0]
  clear hW0
  refine wp_region_schG (fun W => W.cell? ⟨w.heap.size, 0, none⟩ = some (.int .i64 (kd : Int)) ∧ W.cell? ⟨w.heap.size, 1, none⟩ = some (.slice D N c) ∧ w.heap.size < W.heap.size ∧ W = W0) 12 (.firm 0 (.firm 1 (.firm 2 (.firm 4 (.firm 5 (.firm 7 (.firm 8 (.firm 9 (.firm 10 (.one 3 (.one 6 (.one 11 (.one 12 .nil))))))))))))) (by kernel_rfl) (by kernel_rfl) ⟨k0, k1, kb, rfl⟩ ?_
  rintro w0 ⟨k0, k1, kb, rfl⟩
  try simp only [Act.put, List.setIfInBounds_toArray, List.set_cons_zero, List.set_cons_succ]
  iterate 9
    apply sch_firm rfl rfl (by repeat (first | with_reducible exact Within.refl _ | with_reducible assumption | with_reducible refine Within.alloc ?_ _ | with_reducible refine Within.drew ?_ | with_reducible refine Within.drewN ?_ _ | with_reducible refine Within.setCell ?_ (by first | (simp; done) | (simp; omega)) _ | with_reducible refine Within.trans ?_ (by assumption)))
    · intro wq hq
      have hcq := hq.cells
      clear hq
      go_simp
      rfl
    try simp only [Act.put, List.setIfInBounds_toArray, List.set_cons_zero, List.set_cons_succ]
  refine sch_one rfl rfl (fun K hK => ?_)
  go_simp
  refine hK _ _ (fun _ => (by repeat (first | with_reducible exact Within.refl _ | with_reducible assumption | with_reducible refine Within.alloc ?_ _ | with_reducible refine Within.drew ?_ | with_reducible refine Within.drewN ?_ _ | with_reducible refine Within.setCell ?_ (by first | (simp; done) | (simp; omega)) _ | with_reducible refine Within.trans ?_ (by assumption)))) ?_
  clear hK K
  try simp only [Act.put, List.setIfInBounds_toArray, List.set_cons_zero, List.set_cons_succ]
  refine sch_one rfl rfl (fun K hK => ?_)
  go_simp
  have hO3 := OwnB.lit w0.drew w0.heap.size (Nat.le_refl _) [kd] (by simp)
  refine (word_any w0.heap.size _ [kd] n hn (by simp) _ (by simp) (by exact hO3)).mono ?_; rintro e6 w6 ⟨v6, rfl, hO6, hB6⟩
  have hX6 : Within w0 w6 := Below.trans (((Within.refl w0).drew).alloc _) hB6
  obtain ⟨A6, c6, rfl, hx6, hy6, hz6⟩ := hO6.form
  clear hx6 hy6 hz6 hO3
  refine hK _ _ (fun _ => (by repeat (first | with_reducible exact Within.refl _ | with_reducible assumption | with_reducible refine Within.alloc ?_ _ | with_reducible refine Within.drew ?_ | with_reducible refine Within.drewN ?_ _ | with_reducible refine Within.setCell ?_ (by first | (simp; done) | (simp; omega)) _ | with_reducible refine Within.trans ?_ (by assumption)))) ?_
  clear hK K
  try simp only [Act.put, List.setIfInBounds_toArray, List.set_cons_zero, List.set_cons_succ]
  refine sch_one rfl rfl (fun K hK => ?_)
  go_simp
  refine (word_any w0.heap.size _ _ N (by omega) (by rw [List.length_append, leBytes_len]; simp) _ hX6.size hO6).mono ?_; rintro e7 w7 ⟨v7, rfl, hO7, hB7⟩
  have hX7 : Within w0 w7 := Below.trans hX6 hB7
  rw [← HAd.out] at hO7
  obtain ⟨A7, c7, rfl, hc7, hs7, hz7⟩ := hO7.form
  clear hz7
  have hq0 : w7.cell? ⟨w.heap.size, 1, none⟩ = some (.slice D N c) := (hX7.cells _ _ kb).trans k1
  rw [hAl] at hc7 hO7 ⊢
  clear hO6
  refine hK _ _ (fun _ => (by repeat (first | with_reducible exact Within.refl _ | with_reducible assumption | with_reducible refine Within.alloc ?_ _ | with_reducible refine Within.drew ?_ | with_reducible refine Within.drewN ?_ _ | with_reducible refine Within.setCell ?_ (by first | (simp; done) | (simp; omega)) _ | with_reducible refine Within.trans ?_ (by assumption)))) ?_
  clear hK K
  try simp only [Act.put, List.setIfInBounds_toArray, List.set_cons_zero, List.set_cons_succ]
  refine sch_one rfl rfl (fun K hK => ?_)
  go_simp
  refine hK _ _ (fun h => absurd h (by decide)) ?_
  clear hK K
  try simp only [Act.put, List.setIfInBounds_toArray, List.set_cons_zero, List.set_cons_succ]
  refine sch_nil ?_
  have kb7 : w.heap.size < w7.heap.size := Nat.lt_of_lt_of_le kb hX7.size
  have HX7 := Lib.hid (HWW.out.trans hX7); have HBW7 : Hid (w0.heap.size ≤ w7.heap.size) := Lib.hid hX7.size
  have SU := jsum_any last hl A7 c7 LA HAB.out (by omega) w7 hs7
  rw [hAl, ← HLK.out] at SU
  have HSU := Lib.hid SU; have HO7 := Lib.hid hO7; clear SU hO7 hs7 hX7 hB6 hB7 hX6 hc7
  go_wp2_with fail
  refine HSU.out.mono ?_; rintro e8 w8 ⟨rfl, h8⟩
  have HO8 := Lib.hid (HO7.out.of h8)
  go_wp2_with fail
  refine (word_any w0.heap.size _ LA lk hx1 (by omega) _ (Nat.le_trans HBW7.out h8.size) HO8.out).mono ?_; rintro e9 w9 ⟨v9, rfl, hO9, hB9⟩
  have h79 : Below w0.heap.size w7 w9 := Below.trans (Below.mono h8 (HBW7.out)) hB9
  have hX9 : Within w w9 := Below.trans HX7.out (Below.mono h79 HWW.out.size)
  have hq9 : w9.cell? ⟨w.heap.size, 1, none⟩ = some (.slice D N c) := (h79.cell (p := ⟨w.heap.size, 1, none⟩) kb).trans hq0
  have kb9 : w.heap.size < w9.heap.size := World.block_lt_of_cell? _ _ hq9
  obtain ⟨A9, c9, rfl, hx9, hy9, hz9⟩ := hO9.form
  clear hx9 hy9 hz9
  obtain ⟨v10, w10, hrun10, hO10, hB10⟩ := run_app_u8 w9 w0.heap.size _ _ dd hO9 D c (HR.out.of hX9) (by rw [List.length_append, leBytes_len, HN.out]; omega) (Nat.le_trans HBW7.out h79.size)
  rw [← HBd.out] at hO10
  rw [HN.out] at hrun10
  obtain ⟨A10, c10, rfl, hc10, hs10, hz10⟩ := hO10.form
  clear hz10
  rw [hBl] at hc10 hrun10
  have h710 : Below w0.heap.size w7 w10 := h79.trans hB10
  have SU2 := jsum_any last hl A10 c10 LB HBB.out (by omega) w10 hs10
  rw [hBl, ← HNd.out] at SU2
  have HSU2 := Lib.hid SU2; have HO10 := Lib.hid hO10; have RUN10 := Lib.hid hrun10; have H710 := Lib.hid h710; clear SU2 hO10 hrun10 h710 hs10 hO9 hB9 h79 hX9 hB10 hc10
  obtain ⟨n9, hn9⟩ : ∃ n9, (LA ++ leBytes 4 lk).length = n9 := ⟨_, rfl⟩
  rw [hn9] at RUN10 ⊢
  clear hn9
  go_wp2_with (at_builtin; refine wpList_append_run rfl (.tmp 26) (.tmp 28) 28 rfl _ _ rfl rfl RUN10.out ?_)
  refine HSU2.out.mono ?_; rintro e11 w11 ⟨rfl, h11⟩
  have hO11 := HO10.out.of h11
  go_wp2_with fail
  have WD := word_any w0.heap.size _ LB nx hx2 (by omega) _ (Nat.le_trans HBW7.out (Nat.le_trans H710.out.size h11.size)) hO11
  rw [hBl] at WD
  have HWD := Lib.hid WD; clear WD hO11
  refine HWD.out.mono ?_; rintro e12 w12 ⟨v12, rfl, hO12, hB12⟩
  rw [← HVd.out] at hO12
  have h712 : Below w0.heap.size w7 w12 := Below.trans (Below.trans H710.out (Below.mono h11 (Nat.le_trans HBW7.out H710.out.size))) hB12
  have hX12 : Within w w12 := Below.trans HX7.out (Below.mono h712 HWW.out.size)
  have HO12 := Lib.hid (hO12.less HWW.out.size); clear hO12
  obtain ⟨A12, c12, rfl, hx12, hy12, hz12⟩ := HO12.out.form
  clear hx12 hy12 hz12
  go_wp2
  go_ret2
  exact ⟨_, rfl, HO12.out, hX12⟩
set_option maxRecDepth 100000 in
set_option maxHeartbeats 1000000 in
theorem Rlay_any (r : Rec) (n last : Nat) (D : Option Addr) (c : Nat) (hk : r.kind < 256) (hn : n < 4294967296) (hl : last < 4294967296) (hd : r.data.length ≤ 1048576) (hb : Bytes r.data) (w : World) (hr : SlAt w D (u8v r.data)) : Calls Tryz.prog 62 #[.agg #[.int .i64 (r.kind : Int), .slice D r.data.length c], .int .i64 (n : Int), .int .u32 (last : Int)] w fun e w' => ∃ v, e = .returned (.tuple #[v, .int .u32 (nextV r n last : Int)]) ∧ OwnB w' w.heap.size v (layV r n last) ∧ Within w w' := by
  have hAb : Bytes (layA r n) := by
    unfold layA; refine Bytes.append (Bytes.append ?_ (leBytes_bytes _ _)) (leBytes_bytes _ _)
    intro x hx; rw [List.mem_singleton] at hx; omega
  have hBb : Bytes (layB r n last) := by unfold layB; exact Bytes.append (Bytes.append hAb (leBytes_bytes _ _)) hb
  have hAl := layA_len r n
  have hBl := layB_len r n last
  have hx1 := linkV_lt (last := last) hAb
  have hx2 : nextV r n last < 4294967296 := linkV_lt hBb
  have HAd : Hid (layA r n = [r.kind] ++ leBytes 4 n ++ leBytes 4 r.data.length) := Lib.hid rfl
  have HBd : Hid (layB r n last = layA r n ++ leBytes 4 (linkV last (layA r n)) ++ r.data) := Lib.hid rfl
  have HVd : Hid (layV r n last = layB r n last ++ leBytes 4 (nextV r n last)) := Lib.hid rfl
  have HNd : Hid (nextV r n last = linkV last (layB r n last)) := Lib.hid rfl
  obtain ⟨LA, hLA⟩ : ∃ x, x = layA r n := ⟨_, rfl⟩
  rw [← hLA] at HAd HBd hAb hAl hx1
  clear hLA
  obtain ⟨LB, hLB⟩ : ∃ x, x = layB r n last := ⟨_, rfl⟩
  rw [← hLB] at HBd HVd hBb hBl HNd
  clear hLB
  obtain ⟨LV, hLV⟩ : ∃ x, x = layV r n last := ⟨_, rfl⟩
  rw [← hLV] at HVd ⊢
  clear hLV
  obtain ⟨nx, hnx⟩ : ∃ x, x = nextV r n last := ⟨_, rfl⟩
  rw [← hnx] at HVd HNd hx2 ⊢
  clear hnx
  obtain ⟨kd, hK⟩ : ∃ kd, kd = r.kind := ⟨_, rfl⟩
  rw [← hK] at hk HAd ⊢
  clear hK
  obtain ⟨dd, hdd⟩ : ∃ dd, dd = r.data := ⟨_, rfl⟩
  rw [← hdd] at hd hb hr HAd HBd hBl ⊢
  clear hdd
  obtain ⟨N, hN⟩ : ∃ N, dd.length = N := ⟨_, rfl⟩
  rw [hN] at hd HAd hBl ⊢
  have HN := Lib.hid hN
  clear hN
  obtain ⟨lk, hlk⟩ : ∃ x, x = linkV last LA := ⟨_, rfl⟩
  rw [← hlk] at HBd hx1
  have HLK := Lib.hid hlk
  clear hlk
  have HAB := Lib.hid hAb; have HBB := Lib.hid hBb; have HR := Lib.hid hr; have HDB := Lib.hid hb; clear hAb hBb hr hb
  have ck : IntKind.u8.wrap (kd : Int) = (kd : Int) := by rw [IntKind.wrap_u8]; omega
  have cn : IntKind.u64.wrap (n : Int) = (n : Int) := by rw [IntKind.wrap_u64]; omega
  have cN : IntKind.u64.wrap (N : Int) = (N : Int) := by rw [IntKind.wrap_u64]; omega
  have clk : IntKind.u64.wrap (lk : Int) = (lk : Int) := by rw [IntKind.wrap_u64]; omega
  have cnx : IntKind.u64.wrap (nx : Int) = (nx : Int) := by rw [IntKind.wrap_u64]; omega
  obtain ⟨W0, hW0⟩ : ∃ W0, W0 = w.alloc (.cells #[.int .i64 (kd : Int), .slice D N c] 30) := ⟨_, rfl⟩
  have k1 : W0.cell? ⟨w.heap.size, 1, none⟩ = some (.slice D N c) := by rw [hW0]; simp
  have kb : w.heap.size < W0.heap.size := by rw [hW0]; simp
  have hww : Within w W0 := by rw [hW0]; exact (Within.refl w).alloc _
  have k1' : (W0.alloc (.cells #[.int .u8 (kd : Int)] 5)).cell? ⟨w.heap.size, 1, none⟩ = some (.slice D N c) := ((Within.refl W0).alloc _ |>.cells _ _ kb).trans k1
  have hz0 : W0.heap.size = w.heap.size + 1 := by rw [hW0]; simp
  have hO3 : OwnB (W0.alloc (.cells #[.int .u8 (kd : Int)] 5)) W0.heap.size (.slice (some ⟨w.heap.size + 1, 0, none⟩) 1 1) [kd] := by have h3 := OwnB.lit W0 W0.heap.size (Nat.le_refl _) [kd] (by simp); rw [hz0] at h3 ⊢; exact h3
  have HP1 := Lib.hid (Rput4 W0.heap.size _ [kd] n (by omega) (by simp) _ (by simp) hO3)
  have HWW := Lib.hid hww; have HK1 := Lib.hid k1'; clear hww hO3 hz0 k1'
  go_enter Tryz.func62, Tryz.ntmps62
  go_wp2_with fail
  rw [← hW0]
  refine HP1.out.mono ?_; rintro e6 w6 ⟨v6, rfl, hO6, hB6⟩
  have hX6 : Within W0 w6 := Below.trans ((Within.refl W0).alloc _) hB6
  have q6 : w6.cell? ⟨w.heap.size, 1, none⟩ = some (.slice D N c) := (hX6.cells _ _ kb).trans k1
  have kb6 : w.heap.size < w6.heap.size := World.block_lt_of_cell? _ _ q6
  have HP2 := Lib.hid (Rput4 W0.heap.size v6 _ N (by omega) (by rw [List.length_append, leBytes_len]; simp) _ hX6.size hO6)
  obtain ⟨A6, c6, rfl, hx6, hy6, hz6⟩ := hO6.form
  have HX6 := Lib.hid hX6; clear hx6 hy6 hz6 hO6 hB6 hW0 hX6
  obtain ⟨n6, hn6⟩ : ∃ n6, ([kd] ++ leBytes 4 n).length = n6 := ⟨_, rfl⟩
  rw [hn6] at HP2 ⊢
  clear hn6
  go_wp2_with fail
  refine HP2.out.mono ?_; rintro e7 w7 ⟨v7, rfl, hO7, hB7⟩
  have hX7 : Within W0 w7 := Below.trans HX6.out hB7
  rw [← HAd.out] at hO7
  have q7 : w7.cell? ⟨w.heap.size, 1, none⟩ = some (.slice D N c) := (hX7.cells _ _ kb).trans k1
  have kb7 : w.heap.size < w7.heap.size := World.block_lt_of_cell? _ _ q7
  obtain ⟨A7, c7, rfl, hc7, hs7, hz7⟩ := hO7.form
  have SU := Rlink_any last hl A7 c7 LA HAB.out (by omega) w7 hs7
  rw [hAl, ← HLK.out] at SU
  rw [hAl] at hO7 ⊢
  have HSU := Lib.hid SU; have HO7 := Lib.hid hO7; have HX7 := Lib.hid hX7; clear SU hO7 hs7 hz7 hc7 hB7 hX7
  go_wp2_with fail
  refine HSU.out.mono ?_; rintro e8 w8 ⟨rfl, h8⟩
  have HO8 := Lib.hid (HO7.out.of h8)
  have hX8 : Within W0 w8 := HX7.out.trans h8
  have HP3 := Lib.hid (Rput4 W0.heap.size _ LA lk (by omega) (by omega) _ hX8.size HO8.out)
  have HX8 := Lib.hid hX8; clear hX8 h8
  go_wp2_with fail
  refine HP3.out.mono ?_; rintro e9 w9 ⟨v9, rfl, hO9, hB9⟩
  have hX9 : Within W0 w9 := Below.trans HX8.out hB9
  have q9 : w9.cell? ⟨w.heap.size, 1, none⟩ = some (.slice D N c) := (hX9.cells _ _ kb).trans k1
  have kb9 : w.heap.size < w9.heap.size := World.block_lt_of_cell? _ _ q9
  obtain ⟨v10, w10, hrun10, hO10, hB10⟩ := run_app_u8 w9 W0.heap.size _ _ dd hO9 D c (HR.out.of (HWW.out.trans hX9)) (by rw [List.length_append, leBytes_len, HN.out]; omega) hX9.size
  rw [← HBd.out] at hO10
  rw [HN.out] at hrun10
  obtain ⟨A9, c9, rfl, hx9, hy9, hz9⟩ := hO9.form
  obtain ⟨A10, c10, rfl, hc10, hs10, hz10⟩ := hO10.form
  rw [hBl] at hc10 hrun10 hO10
  have hX10 : Within W0 w10 := Below.trans hX9 hB10
  have SU2 := Rlink_any last hl A10 c10 LB HBB.out (by omega) w10 hs10
  rw [hBl, ← HNd.out] at SU2
  have HSU2 := Lib.hid SU2; have HO10 := Lib.hid hO10; have RUN10 := Lib.hid hrun10; have HX10 := Lib.hid hX10; clear SU2 hO10 hrun10 hX10 hs10 hO9 hB9 hX9 hB10 hc10 hx9 hy9 hz9 hz10
  obtain ⟨n9, hn9⟩ : ∃ n9, (LA ++ leBytes 4 lk).length = n9 := ⟨_, rfl⟩
  rw [hn9] at RUN10 ⊢
  clear hn9
  go_wp2_with (at_builtin; refine wpList_append_run rfl (.tmp 30) (.tmp 32) 28 rfl _ _ rfl rfl RUN10.out ?_)
  refine HSU2.out.mono ?_; rintro e11 w11 ⟨rfl, h11⟩
  have HP4 := Rput4 W0.heap.size _ LB nx (by omega) (by omega) _ (Nat.le_trans HX10.out.size h11.size) (HO10.out.of h11)
  rw [← HVd.out] at HP4
  have HP5 := Lib.hid HP4; clear HP4
  have hX11 : Within W0 w11 := HX10.out.trans h11
  have HX11 := Lib.hid hX11; clear hX11 h11
  go_wp2_with fail
  refine HP5.out.mono ?_; rintro e12 w12 ⟨v12, rfl, hO12, hB12⟩
  have hX12 : Within w w12 := HWW.out.trans (Below.trans HX11.out hB12)
  have HO12 := Lib.hid (hO12.less HWW.out.size); clear hO12
  obtain ⟨A12, c12, rfl, hx12, hy12, hz12⟩ := HO12.out.form
  clear hx12 hy12 hz12
  go_wp2
  go_ret2
  exact ⟨_, rfl, HO12.out, hX12⟩
end Go.Proofs.YtpmjlaiafgbjgaaGreatDoor
end

section
namespace Go.Proofs.YtpmjlaiafgbjgaaGreatDoor
open Go.RowKit
def recC (r : IRec) (v : Value) : List Value := [.int .i64 r.1, v]
def cellsI (ps : List (IRec × Value)) : List Value := ps.flatMap fun p => recC p.1 p.2
def RecP (w : World) (base : Nat) (v : Value) (ps : List (IRec × Value)) : Prop :=
  w.ownsRow base 30 2 v ps.length (cellsI ps) ∧ ∀ p ∈ ps, OwnB w base p.2 p.1.2 ∧ Bytes p.1.2 ∧ (p.2.ownBlock = none ∨ p.2.ownBlock ≠ v.ownBlock)
def RecsO (w : World) (base : Nat) (v : Value) (rs : List IRec) : Prop := ∃ ps, ps.map Prod.fst = rs ∧ RecP w base v ps
theorem RecsO.nil_ (w : World) (base : Nat) : RecsO w base (.slice none 0 0) [] := ⟨[], rfl, World.ownsRow_nil _ _ _ _, fun p hp => by cases hp⟩
theorem ownsRow_keep {w w' : World} {base : Nat} {e : TypeId} {size : Nat} {v : Value} {n : Nat} {xs : List Value} (h : w.ownsRow base e size v n xs) (k : ∀ j, v.ownBlock = some j → w'.heap[j]? = w.heap[j]?) : w'.ownsRow base e size v n xs := by
  refine ⟨h.1, ?_⟩
  rcases h.2 with h2 | ⟨g, cap, cur, h1, hb, hg, h3⟩
  · exact .inl h2
  · exact .inr ⟨g, cap, cur, h1, hb, (k g (by rw [h1]; rfl)).trans hg, h3⟩
theorem RecsO.keep {w w' : World} {base : Nat} {v : Value} {rs : List IRec} (h : RecsO w base v rs) (k : ∀ j, base ≤ j → j < w.heap.size → w'.heap[j]? = w.heap[j]?) : RecsO w' base v rs := by
  obtain ⟨ps, h1, h2, h3⟩ := h
  refine ⟨ps, h1, ownsRow_keep h2 (fun j hj => k j (h2.lt j hj).1 (h2.lt j hj).2), fun p hp => ⟨ownsRow_keep (h3 p hp).1 (fun j hj => k j ((h3 p hp).1.lt j hj).1 ((h3 p hp).1.lt j hj).2), (h3 p hp).2⟩⟩
theorem RecsO.of {w w' : World} {base : Nat} {v : Value} {rs : List IRec} (h : RecsO w base v rs) (k : Within w w') : RecsO w' base v rs := h.keep fun j _ hj => k.block j hj
theorem RecsO.but {w w' : World} {bk base : Nat} {v : Value} {rs : List IRec} (h : RecsO w base v rs) (k : But bk w w') (hb : bk < base) : RecsO w' base v rs := h.keep fun j hj hl => k.block j hl (fun e => by have := Option.some.inj e; omega)
theorem RecsO.butS {w w' : World} {S : Nat → Prop} {base : Nat} {v : Value} {rs : List IRec} (h : RecsO w base v rs) (k : ButS S w w') (hb : ∀ j, base ≤ j → ¬ S j) : RecsO w' base v rs := h.keep fun j hj hl => k.block j hl (hb j hj)
theorem owns_lessN {w : World} {base base' : Nat} {E : TypeId} {size : Nat} {v : Value} {n : Nat} {xs : List Value} (h : w.ownsRow base E size v n xs) (k : base' ≤ base) : w.ownsRow base' E size v n xs := by
  refine ⟨h.1, ?_⟩
  rcases h.2 with h2 | ⟨g, cap, cur, h1, hb, h3⟩
  · exact .inl h2
  · exact .inr ⟨g, cap, cur, h1, Nat.le_trans k hb, h3⟩
theorem RecsO.less {w : World} {base base' : Nat} {v : Value} {rs : List IRec} (h : RecsO w base v rs) (k : base' ≤ base) : RecsO w base' v rs := by
  obtain ⟨ps, h1, h2, h3⟩ := h
  exact ⟨ps, h1, owns_lessN h2 k, fun p hp => ⟨(h3 p hp).1.less k, (h3 p hp).2⟩⟩
theorem RecsO.own_lt {w : World} {base : Nat} {v : Value} {rs : List IRec} (h : RecsO w base v rs) : ∀ j, v.ownBlock = some j → base ≤ j ∧ j < w.heap.size := by
  obtain ⟨ps, _, h2, _⟩ := h
  exact h2.lt
theorem cellsI_get : ∀ (ps : List (IRec × Value)) (i : Nat) (p : IRec × Value), ps[i]? = some p → ∀ j u, (recC p.1 p.2)[j]? = some u → (cellsI ps)[i * 2 + j]? = some u
  | [], i, p, h, _, _, _ => by simp at h
  | q :: ps, 0, p, h, j, u, hu => by
    simp at h; subst h
    have hj : j < 2 := by
      obtain ⟨hj, _⟩ := List.getElem?_eq_some_iff.1 hu
      exact hj
    rw [cellsI, List.flatMap_cons, List.getElem?_append_left (by show _ < 2; omega), Nat.zero_mul, Nat.zero_add]
    exact hu
  | q :: ps, i + 1, p, h, j, u, hu => by
    simp at h
    rw [cellsI, List.flatMap_cons, List.getElem?_append_right (by show 2 ≤ _; omega), show (i + 1) * 2 + j - (recC q.1 q.2).length = i * 2 + j by show (i + 1) * 2 + j - 2 = _; omega]
    exact cellsI_get ps i p h j u hu
def RecB (w : World) (A : Option Addr) (rs : List IRec) : Prop := ∀ (i : Nat) r, rs[i]? = some r → ∃ g Dv cv, A = some ⟨g, 0, none⟩ ∧ g < w.heap.size ∧ w.cell? ⟨g, i * 2, none⟩ = some (.int .i64 r.1) ∧ w.cell? ⟨g, i * 2 + 1, none⟩ = some (.slice Dv r.2.length cv) ∧ r.2.length ≤ cv ∧ SlAt w Dv (u8v r.2) ∧ Bytes r.2
theorem RecB.of {w w' : World} {A : Option Addr} {rs : List IRec} (h : RecB w A rs) (k : Within w w') : RecB w' A rs := fun i r hi => by
  obtain ⟨g, Dv, cv, h1, h2, h3, h4, h5, h6, h7⟩ := h i r hi
  exact ⟨g, Dv, cv, h1, Nat.lt_of_lt_of_le h2 k.size, (k.cells _ _ h2).trans h3, (k.cells _ _ h2).trans h4, h5, h6.of k, h7⟩
theorem RecsO.at {w : World} {base : Nat} {v : Value} {rs : List IRec} (h : RecsO w base v rs) : ∃ A c, v = .slice A rs.length c ∧ rs.length ≤ c ∧ RecB w A rs ∧ (∀ ad, A = some ad → base ≤ ad.block) ∧ RecAt w (fun k => base ≤ k) A rs := by
  obtain ⟨ps, rfl, hrow, hps⟩ := h
  rcases hrow.2 with ⟨rfl, h0⟩ | ⟨g, cap, cur, rfl, hg, hb, hc, _, _, _⟩
  · have : ps = [] := List.eq_nil_of_length_eq_zero h0
    subst this
    exact ⟨none, 0, rfl, Nat.le_refl _, (fun i r hi => by simp at hi), (fun ad e => by cases e), fun i r hi => by simp at hi⟩
  · obtain ⟨hlt, _⟩ := Array.getElem?_eq_some_iff.1 hb
    have all : ∀ (i : Nat) r, (ps.map Prod.fst)[i]? = some r → ∃ Dv cv, w.cell? ⟨g, i * 2, none⟩ = some (.int .i64 r.1) ∧ w.cell? ⟨g, i * 2 + 1, none⟩ = some (.slice Dv r.2.length cv) ∧ r.2.length ≤ cv ∧ SlAt w Dv (u8v r.2) ∧ (∀ ad, Dv = some ad → base ≤ ad.block) ∧ Bytes r.2 := fun i r hi => by
      rw [List.getElem?_map, Option.map_eq_some_iff] at hi
      obtain ⟨p, hp, rfl⟩ := hi
      obtain ⟨h1, h2, _⟩ := hps p (List.mem_of_getElem? hp)
      obtain ⟨Dv, cv, hv, hl, hs, hD⟩ := h1.form
      have key : ∀ j u, (recC p.1 p.2)[j]? = some u → w.cell? ⟨g, i * 2 + j, none⟩ = some u := fun j u hu => by rw [← add_at]; exact World.ownsRow.cells (g := g) hrow rfl _ _ (cellsI_get ps i p hp j u hu)
      exact ⟨Dv, cv, key 0 _ rfl, by rw [key 1 _ rfl, hv], hl, hs, hD, h2⟩
    refine ⟨some ⟨g, 0, none⟩, cap, by rw [List.length_map], by rw [List.length_map]; exact hc, fun i r hi => ?_, fun ad e => by injection e with e; subst e; exact hg, fun i r hi => ?_⟩
    · obtain ⟨Dv, cv, k0, k1, k2, k3, _, k5⟩ := all i r hi
      exact ⟨g, Dv, cv, rfl, hlt, k0, k1, k2, k3, k5⟩
    · obtain ⟨Dv, cv, k0, k1, k2, k3, k4, k5⟩ := all i r hi
      exact ⟨⟨g, 0, none⟩, Dv, cv, rfl, hlt, hg, by rw [add_at]; exact k0, by rw [add_at]; exact k1, k2, k3, k4, k5⟩
theorem Tryz.infoRec : (Tryz.prog.info? 30).map (fun i => (i.zero, i.size, i.bytes)) = some (some (.agg #[.int .i64 0, .slice none 0 0]), 2, 32) := by kernel_rfl
theorem recC_one (r : IRec) {v : Value} (hv : v.oneCell' = true) : ∀ u ∈ recC r v, u.oneCell' = true := by
  intro u hu
  unfold recC at hu
  simp only [List.mem_cons, List.not_mem_nil, or_false] at hu
  rcases hu with rfl | rfl
  · rfl
  · exact hv
theorem run_app_recP (w : World) (base : Nat) (v : Value) (ps : List (IRec × Value)) (r : IRec) (u : Value) (hown : RecP w base v ps) (hu : OwnB w base u r.2) (hub : Bytes r.2) (hne : u.ownBlock = none ∨ u.ownBlock ≠ v.ownBlock) (hl : (ps.length + 1) * 32 ≤ 140737488355328) (hbase : base ≤ w.heap.size) :
    ∃ v' w', (Builtin.append_ #[52, 52] 52 #[v, .slice (some ⟨w.heap.size, 0, none⟩) 1 1]).run Tryz.prog (w.alloc (.cells #[.int .i64 r.1, u] 30)) = .ok v' w' ∧ RecP w' base v' (ps ++ [(r, u)]) ∧ w.grownBy w' v.ownBlock ∧ (v'.ownBlock = v.ownBlock ∨ v'.ownBlock = some (w.heap.size + 1)) := by
  obtain ⟨hrow, hps⟩ := hown
  obtain ⟨i0, hi0, hz0, hz1, hz2⟩ := info_parts Tryz.infoRec
  have hin := (Within.refl w).alloc (.cells #[.int .i64 r.1, u] 30)
  have hu1 : u.oneCell' = true := by obtain ⟨A, c, rfl, _⟩ := hu.form; rfl
  have hrow' := hrow.kept (within_grown hin) (by cases hv : v.ownBlock <;> simp)
  have hcell : ∀ (j : Nat) x, (recC r u)[j]? = some x → (w.alloc (.cells #[.int .i64 r.1, u] 30)).cell? ((⟨w.heap.size, 0, none⟩ : Addr).add j) = some x := fun j x hx => by
    rw [add_at, World.cell?_alloc_at _ _ _ _ rfl]
    unfold recC at hx
    match j, hx with
    | 0, hx => exact hx
    | 1, hx => exact hx
    | j + 2, hx => simp at hx
  obtain ⟨v', w', h1, h2, h3, _, h5⟩ := run_append_own_at (P := Tryz.prog) (w := w.alloc (.cells #[.int .i64 r.1, u] 30)) base 52 52 30 i0 (.agg #[.int .i64 0, .slice none 0 0]) 2 32 (by kernel_rfl) hi0 hz0 hz1 hz2 rfl (by decide) v ps.length (cellsI ps) hrow' ⟨w.heap.size, 0, none⟩ 1 1 (recC r u) rfl hcell (recC_one r hu1)
    (by unfold maxLen; omega) (by omega) (by simp; omega)
  have h5' : v'.ownBlock = v.ownBlock ∨ v'.ownBlock = some (w.heap.size + 1) := by simpa using h5
  refine ⟨v', w', h1, ⟨?_, ?_⟩, ?_, h5'⟩
  · have e : cellsI (ps ++ [(r, u)]) = cellsI ps ++ recC r u := by unfold cellsI; rw [List.flatMap_append]; simp
    rw [List.length_append, e]; exact h2
  · have key : ∀ x xs, OwnB w base x xs → (x.ownBlock = none ∨ x.ownBlock ≠ v.ownBlock) → OwnB w' base x xs ∧ (x.ownBlock = none ∨ x.ownBlock ≠ v'.ownBlock) := fun x xs h hn => by
      refine ⟨(h.of hin).kept h3 hn, ?_⟩
      rcases hn with hn | hn
      · exact .inl hn
      · rcases h5' with h5 | h5
        · exact .inr (by rw [h5]; exact hn)
        · cases hx : x.ownBlock with
          | none => exact .inl rfl
          | some j =>
            refine .inr (fun e => ?_)
            rw [h5] at e
            have := (h.lt j hx).2
            have := Option.some.inj e
            omega
    intro p hp
    rcases List.mem_append.1 hp with h | h
    · exact ⟨(key _ _ (hps p h).1 (hps p h).2.2).1, (hps p h).2.1, (key _ _ (hps p h).1 (hps p h).2.2).2⟩
    · rw [List.mem_singleton] at h; rw [h]; exact ⟨(key _ _ hu hne).1, hub, (key _ _ hu hne).2⟩
  · exact ⟨h3.os, h3.tape, h3.output, Nat.le_trans (by simp) h3.size, fun k hk hn => (h3.block k (by simp; omega) hn).trans (Below.heap_alloc _ _ _ hk)⟩
theorem run_app_rec (w : World) (base : Nat) (v : Value) (rs : List IRec) (r : IRec) (u : Value) (hown : RecsO w base v rs) (hu : OwnB w base u r.2) (hub : Bytes r.2) (hne : u.ownBlock = none ∨ u.ownBlock ≠ v.ownBlock) (hl : (rs.length + 1) * 32 ≤ 140737488355328) (hbase : base ≤ w.heap.size) :
    ∃ v' w', (Builtin.append_ #[52, 52] 52 #[v, .slice (some ⟨w.heap.size, 0, none⟩) 1 1]).run Tryz.prog (w.alloc (.cells #[.int .i64 r.1, u] 30)) = .ok v' w' ∧ RecsO w' base v' (rs ++ [r]) ∧ w.grownBy w' v.ownBlock ∧ (∀ j, v.ownBlock = some j → base ≤ j) ∧ (v'.ownBlock = v.ownBlock ∨ v'.ownBlock = some (w.heap.size + 1)) := by
  obtain ⟨ps, rfl, hP⟩ := hown
  obtain ⟨v', w', h1, h2, h3, h4⟩ := run_app_recP w base v ps r u hP hu hub hne (by rw [List.length_map] at hl; exact hl) hbase
  exact ⟨v', w', h1, ⟨ps ++ [(r, u)], by rw [List.map_append]; rfl, h2⟩, h3, fun j hj => (hP.1.lt j hj).1, h4⟩
end Go.Proofs.YtpmjlaiafgbjgaaGreatDoor
end

section
namespace Go.Proofs.YtpmjlaiafgbjgaaGreatDoor
open Go.RowKit
set_option maxRecDepth 100000 in
set_option maxHeartbeats 1000000 in
theorem clone_any (A : Option Addr) (c : Nat) (l : List Nat) (hl : l.length ≤ 70368744177664) (w : World) (hr : SlAt w A (u8v l)) : Calls Tryz.prog 36 #[.slice A l.length c] w fun e w' => ∃ v, e = .returned v ∧ OwnB w' w.heap.size v l ∧ Within w w' := by
  rcases A with _ | ad
  · have h0 : l = [] := by
      rcases Nat.eq_zero_or_pos l.length with h | h
      · exact List.eq_nil_of_length_eq_zero h
      · obtain ⟨_, e, _⟩ := hr (by rw [u8v_len]; exact h); cases e
    subst h0
    clear hr
    have q : ∀ w : World, (binOp .eql 28 (.slice none 0 c) (.slice none 0 0)).run Tryz.prog w = .ok (.bool true) w := fun _ => by kernel_rfl
    go_enter Tryz.func36, Tryz.ntmps36
    go_wp2
    go_ret
    exact ⟨_, rfl, OwnB.nil_ _ _, Within.refl _⟩
  · have q : ∀ (n : Nat) (w : World), (binOp .eql 28 (.slice (some ad) n c) (.slice none 0 0)).run Tryz.prog w = .ok (.bool false) w := fun _ _ => by kernel_rfl
    have hin := (Within.refl w).alloc (.cells #[] 5)
    obtain ⟨v2, w2, hrun, hO2, hB2⟩ := run_app_u8 _ w.heap.size _ [] l (OwnB.lit w w.heap.size (Nat.le_refl _) [] (by simp)) (some ad) c (hr.of hin) (by rw [List.length_nil]; omega) hin.size
    rw [List.nil_append] at hO2
    have hW2 : Within w w2 := Below.trans hin hB2
    have RUN := Lib.hid hrun; have HO := Lib.hid hO2; have HW := Lib.hid hW2; clear hrun hO2 hW2 hr hin hB2
    go_enter Tryz.func36, Tryz.ntmps36
    go_wp2_with (at_builtin; refine wpList_append_run rfl (.tmp 5) (.tmp 6) 28 rfl _ _ rfl rfl RUN.out ?_)
    go_ret
    exact ⟨_, rfl, HO.out, HW.out⟩
end Go.Proofs.YtpmjlaiafgbjgaaGreatDoor
end

section
namespace Go.Proofs.YtpmjlaiafgbjgaaGreatDoor
open Go.RowKit
def NxC (w : World) (rb : Nat) (bv : Value) (a k : Nat) (lv : Value) : Prop := w.cell? ⟨rb, 0, none⟩ = some bv ∧ w.cell? ⟨rb, 1, none⟩ = some (.int .i64 (a : Int)) ∧ w.cell? ⟨rb, 2, none⟩ = some (.int .u32 (k : Int)) ∧ w.cell? ⟨rb, 3, none⟩ = some lv ∧ ∀ o, w.frozen? ⟨rb, o, none⟩ = false
theorem NxC.lt {w : World} {rb : Nat} {bv : Value} {a k : Nat} {lv : Value} (h : NxC w rb bv a k lv) : rb < w.heap.size := World.block_lt_of_cell? _ _ h.1
theorem NxC.of {w w' : World} {rb : Nat} {bv : Value} {a k : Nat} {lv : Value} (h : NxC w rb bv a k lv) (i : Within w w') : NxC w' rb bv a k lv := by
  have hb := h.lt
  obtain ⟨h0, h1, h2, h3, h4⟩ := h
  exact ⟨(i.cells _ _ hb).trans h0, (i.cells _ _ hb).trans h1, (i.cells _ _ hb).trans h2, (i.cells _ _ hb).trans h3, fun o => (i.frozens _ _ hb).trans (h4 o)⟩
theorem NxC.grown {w w' : World} {row : Option Nat} {rb : Nat} {bv : Value} {a k : Nat} {lv : Value} (h : NxC w rb bv a k lv) (i : w.grownBy w' row) (hne : row ≠ some rb) : NxC w' rb bv a k lv := by
  have hb := h.lt
  obtain ⟨h0, h1, h2, h3, h4⟩ := h
  exact ⟨i.cell h0 (Ne.symm hne), i.cell h1 (Ne.symm hne), i.cell h2 (Ne.symm hne), i.cell h3 (Ne.symm hne), fun o => (World.frozen?_of_block (i.block rb hb (Ne.symm hne))).trans (h4 o)⟩
theorem NxC.list {w : World} {rb : Nat} {bv : Value} {a k : Nat} {lv : Value} (h : NxC w rb bv a k lv) (u : Value) : NxC (w.setCell ⟨rb, 3, none⟩ u) rb bv a k u := by
  obtain ⟨h0, h1, h2, h3, h4⟩ := h
  refine ⟨?_, ?_, ?_, World.cell?_setCell_same _ _ _ h3, fun o => by rw [World.frozen?_setCell]; exact h4 o⟩
  · rw [World.cell?_setCell_other _ _ _ _ (by simp)]; exact h0
  · rw [World.cell?_setCell_other _ _ _ _ (by simp)]; exact h1
  · rw [World.cell?_setCell_other _ _ _ _ (by simp)]; exact h2
theorem NxC.place {w : World} {rb : Nat} {bv : Value} {a k : Nat} {lv : Value} (h : NxC w rb bv a k lv) (x : Nat) : NxC (w.setCell ⟨rb, 1, none⟩ (.int .i64 (x : Int))) rb bv x k lv := by
  obtain ⟨h0, h1, h2, h3, h4⟩ := h
  refine ⟨?_, World.cell?_setCell_same _ _ _ h1, ?_, ?_, fun o => by rw [World.frozen?_setCell]; exact h4 o⟩
  · rw [World.cell?_setCell_other _ _ _ _ (by simp)]; exact h0
  · rw [World.cell?_setCell_other _ _ _ _ (by simp)]; exact h2
  · rw [World.cell?_setCell_other _ _ _ _ (by simp)]; exact h3
theorem NxC.link {w : World} {rb : Nat} {bv : Value} {a k : Nat} {lv : Value} (h : NxC w rb bv a k lv) (x : Nat) : NxC (w.setCell ⟨rb, 2, none⟩ (.int .u32 (x : Int))) rb bv a x lv := by
  obtain ⟨h0, h1, h2, h3, h4⟩ := h
  refine ⟨?_, ?_, World.cell?_setCell_same _ _ _ h2, ?_, fun o => by rw [World.frozen?_setCell]; exact h4 o⟩
  · rw [World.cell?_setCell_other _ _ _ _ (by simp)]; exact h0
  · rw [World.cell?_setCell_other _ _ _ _ (by simp)]; exact h1
  · rw [World.cell?_setCell_other _ _ _ _ (by simp)]; exact h3
def NextPost (w : World) (rb B : Nat) (bv : Value) (left : List Nat) (a k : Nat) (rs : List Rec) (e : Ending) (w' : World) : Prop :=
  (left = [] ∧ e = .returned (.tuple #[.int .i64 0, .bool false]) ∧ Within w w') ∨
  (left ≠ [] ∧ whyV pf left rs.length k ≠ 0 ∧ e = .returned (.tuple #[.int .i64 (whyV pf left rs.length k : Int), .bool false]) ∧ Within w w') ∨
  (whyV pf left rs.length k = 0 ∧ e = .returned (.tuple #[.int .i64 0, .bool true]) ∧ ∃ lv, NxC w' rb bv (a + (endV left + 4)) (linkV k (left.take (endV left))) lv ∧ RecsO w' B lv ((rs ++ [recV left]).map Rec.i) ∧ ButS (fun j => j = rb ∨ B ≤ j) w w')
theorem wp_region_schT {P : Program} {ops : Array Oper} {Q : Exit → Act → World → Prop} {id : Nat} {a : Act} {w : World} (T : Nat → Prop) (F : World → Prop) (p : Nat) (t : Sch) (hm : P.follows .mixedOrders = true) (hB : t.okAll ops p = true) (hF : F w)
    (h : ∀ w0, F w0 → wpSch P ops (OnlyN Q) (ButS T w0) p t a w0.drew) : (Code.region id ops true).wp P Q a w := wp_region_sch (ButS T w) p t hm hB ((ButS.refl T w).drew) fun _ => h w hF
theorem NextPost.rec_ {w w' : World} {rb B : Nat} {bv lv : Value} {left : List Nat} {a k : Nat} {rs : List Rec} (h : whyV pf left rs.length k = 0) (h1 : NxC w' rb bv (a + (endV left + 4)) (linkV k (left.take (endV left))) lv) (h2 : RecsO w' B lv ((rs ++ [recV left]).map Rec.i)) (h3 : ButS (fun j => j = rb ∨ B ≤ j) w w') : NextPost w rb B bv left a k rs (.returned (.tuple #[.int .i64 0, .bool true])) w' := .inr (.inr ⟨h, rfl, lv, h1, h2, h3⟩)
theorem why_few {b : List Nat} {n k : Nat} (h : b.length < 13) : whyV pf b n k = 2 := by unfold whyV; rw [if_pos h]
theorem why_sum {b : List Nat} {n k : Nat} (h : ¬ b.length < 13) (h2 : at4 b 9 ≠ linkV k (b.take 9)) : whyV pf b n k = 4 := by unfold whyV; rw [if_neg h, if_pos h2]
theorem why_form {b : List Nat} {n k : Nat} (h : ¬ b.length < 13) (h2 : ¬ at4 b 9 ≠ linkV k (b.take 9)) (h3 : b.getD 0 0 < 1 ∨ 3 < b.getD 0 0 ∨ at4 b 1 ≠ n ∨ 1048576 < at4 b 5 ∨ 1048576 ≤ n) : whyV pf b n k = 3 := by unfold whyV; rw [if_neg h, if_neg h2, if_pos h3]
theorem why_short {b : List Nat} {n k : Nat} (h : ¬ b.length < 13) (h2 : ¬ at4 b 9 ≠ linkV k (b.take 9)) (h3 : ¬ (b.getD 0 0 < 1 ∨ 3 < b.getD 0 0 ∨ at4 b 1 ≠ n ∨ 1048576 < at4 b 5 ∨ 1048576 ≤ n)) (h4 : b.length < endV b + 4) : whyV pf b n k = 2 := by unfold whyV; rw [if_neg h, if_neg h2, if_neg h3, if_pos h4]
theorem why_link {b : List Nat} {n k : Nat} (h : ¬ b.length < 13) (h2 : ¬ at4 b 9 ≠ linkV k (b.take 9)) (h3 : ¬ (b.getD 0 0 < 1 ∨ 3 < b.getD 0 0 ∨ at4 b 1 ≠ n ∨ 1048576 < at4 b 5 ∨ 1048576 ≤ n)) (h4 : ¬ b.length < endV b + 4) (h5 : at4 b (endV b) ≠ linkV k (b.take (endV b))) : whyV pf b n k = 4 := by unfold whyV; rw [if_neg h, if_neg h2, if_neg h3, if_neg h4, if_pos h5]
theorem why_rec {b : List Nat} {n k : Nat} (h : ¬ b.length < 13) (h2 : ¬ at4 b 9 ≠ linkV k (b.take 9)) (h3 : ¬ (b.getD 0 0 < 1 ∨ 3 < b.getD 0 0 ∨ at4 b 1 ≠ n ∨ 1048576 < at4 b 5 ∨ 1048576 ≤ n)) (h4 : ¬ b.length < endV b + 4) (h5 : ¬ at4 b (endV b) ≠ linkV k (b.take (endV b))) : whyV pf b n k = if checkR pf (b.getD 0 0) ((b.drop 13).take (at4 b 5)) ≠ 0 then 3 else 0 := by unfold whyV; rw [if_neg h, if_neg h2, if_neg h3, if_neg h4, if_neg h5]
theorem at4_lt {b : List Nat} (hb : Bytes b) (i : Nat) : at4 b i < 4294967296 := by
  have h := leVal_lt ((hb.drop i).take 4)
  have hl : ((b.drop i).take 4).length ≤ 4 := by rw [List.length_take]; exact Nat.min_le_left _ _
  exact Nat.lt_of_lt_of_le h (by rw [show (4294967296 : Nat) = 2 ^ 32 from rfl]; exact Nat.pow_le_pow_right (by decide) (by omega))
theorem NextPost.none_ {w w' : World} {rb B : Nat} {bv : Value} {left : List Nat} {a k : Nat} {rs : List Rec} (h : left = []) (hw : Within w w') : NextPost w rb B bv left a k rs (.returned (.tuple #[.int .i64 0, .bool false])) w' := .inl ⟨h, rfl, hw⟩
theorem NextPost.why {w w' : World} {rb B : Nat} {bv : Value} {left : List Nat} {a k y : Nat} {rs : List Rec} (h0 : left ≠ []) (h : whyV pf left rs.length k = y) (hy : y ≠ 0) (hw : Within w w') : NextPost w rb B bv left a k rs (.returned (.tuple #[.int .i64 (y : Int), .bool false])) w' := .inr (.inl ⟨h0, by rw [h]; exact hy, by rw [h], hw⟩)
theorem left_at {w : World} {ad : Addr} {b : List Nat} (hr : SlAt w (some ad) (u8v b)) (a : Nat) : SlAt w (some (ad.add a)) (u8v (b.drop a)) := by have := hr.drop a; unfold u8v at this ⊢; rwa [← List.map_drop] at this
set_option maxRecDepth 100000 in
set_option maxHeartbeats 4000000 in
theorem next_any (rb B : Nat) (ad : Addr) (cb : Nat) (b : List Nat) (hb : Bytes b) (a k : Nat) (rs : List Rec) (hlen : b.length ≤ 140737488355328) (hcb : b.length ≤ cb) (ha : a ≤ b.length) (hk : k < 4294967296) (hrs : rs.length ≤ 1048576) (hrB : rb < B) (lv : Value) (w : World) (hB : B ≤ w.heap.size) (hT : FmS w) (hC : NxC w rb (.slice (some ad) b.length cb) a k lv) (hL : RecsO w B lv (rs.map Rec.i)) (hr : SlAt w (some ad) (u8v b)) : Calls Tryz.prog 60 #[.pointer (some ⟨rb, 0, none⟩)] w (NextPost w rb B (.slice (some ad) b.length cb) (b.drop a) a k rs) := by
  obtain ⟨Al, cl, rfl, hcl, _, _, _⟩ := hL.at
  rw [List.length_map] at hcl hC hL
  have hrb := hC.lt
  obtain ⟨p0, p1, p2, p3, pf0⟩ := hC
  obtain ⟨left, hleft⟩ : ∃ l, b.drop a = l := ⟨_, rfl⟩
  have hll : left.length = b.length - a := by rw [← hleft, List.length_drop]
  have hls := left_at hr a
  rw [hleft] at hls ⊢
  have hlb : Bytes left := by rw [← hleft]; exact hb.drop a
  obtain ⟨N, hN⟩ : ∃ N, b.length = N := ⟨_, rfl⟩
  rw [hN] at hlen hcb ha hll p0 ⊢
  clear hN
  obtain ⟨n, hn⟩ : ∃ n, rs.length = n := ⟨_, rfl⟩
  rw [hn] at hcl hrs p3 hL
  have a1 : (a : Int) ≤ (N : Int) := by omega
  have a2 : (a : Int) ≤ (cb : Int) := by omega
  have a0 : (0 : Int) ≤ (a : Int) := by omega
  have a3 : (N : Int) ≤ (cb : Int) := by omega
  have HRB := Lib.hid hrb; have HN := Lib.hid hn; have HT := Lib.hid hT; have HLB := Lib.hid hlb; have HLS := Lib.hid hls; have HLL := Lib.hid hll; have HRL := Lib.hid hL; have HPF := Lib.hid pf0; clear hn hT hlb hls hll hL hr hb hleft pf0
  rcases Nat.eq_zero_or_pos left.length with h0 | h0
  · have hnil : left = [] := List.eq_nil_of_length_eq_zero h0
    obtain rfl : N = a := by have := HLL.out; omega
    have HNIL := Lib.hid hnil; clear hnil h0
    rcases Decidable.em (cb = N) with hc | hc
    all_goals
      go_enter Tryz.func60, Tryz.ntmps60
      go_wp2_with fail
      refine wp_region_schG (fun W => W.cell? ⟨rb, 0, none⟩ = some (.slice (some ad) (N) (cb)) ∧ W.cell? ⟨rb, 1, none⟩ = some (.int .i64 (N : Int)) ∧ W.cell? ⟨rb, 2, none⟩ = some (.int .u32 (k : Int)) ∧ W.cell? ⟨rb, 3, none⟩ = some (.slice Al n cl) ∧ rb < W.heap.size ∧ Within w W) 9 (.firm 0 (.firm 1 (.firm 2 (.firm 3 (.firm 4 (.firm 5 (.firm 6 (.firm 7 (.firm 8 (.one 9 .nil)))))))))) (by kernel_rfl) (by kernel_rfl) ⟨p0, p1, p2, p3, hrb, Within.refl _⟩ ?_
      rintro w0 ⟨p0, p1, p2, p3, hrb, hw0⟩
      try simp only [Act.put, List.setIfInBounds_toArray, List.set_cons_zero, List.set_cons_succ]
      iterate 9
        apply sch_firm rfl rfl (by repeat (first | with_reducible exact Within.refl _ | with_reducible assumption | with_reducible refine Within.alloc ?_ _ | with_reducible refine Within.drew ?_ | with_reducible refine Within.drewN ?_ _ | with_reducible refine Within.setCell ?_ (by first | (simp; done) | (simp; omega)) _ | with_reducible refine Within.trans ?_ (by assumption)))
        · intro wq hq
          have hcq := hq.cells
          clear hq
          go_simp
          rfl
        try simp only [Act.put, List.setIfInBounds_toArray, List.set_cons_zero, List.set_cons_succ]
      refine sch_one rfl rfl (fun K hK => ?_)
      go_simp
      refine hK _ _ (fun h => absurd h (by decide)) ?_
      clear hK K
      try simp only [Act.put, List.setIfInBounds_toArray, List.set_cons_zero, List.set_cons_succ]
      refine sch_nil ?_
      go_wp2
      go_ret2
      exact NextPost.none_ HNIL.out (by repeat (first | with_reducible exact Within.refl _ | with_reducible assumption | with_reducible refine Within.alloc ?_ _ | with_reducible refine Within.drew ?_ | with_reducible refine Within.drewN ?_ _ | with_reducible refine Within.setCell ?_ (by first | (simp; done) | (simp; omega)) _ | with_reducible refine Within.trans ?_ (by assumption)))
  have hne : left ≠ [] := fun h => by rw [h] at h0; simp at h0
  obtain ⟨C, hC⟩ : ∃ C, cb = a + C := ⟨cb - a, by omega⟩
  subst hC
  obtain ⟨LR, hLR⟩ : ∃ LR, left.length = LR := ⟨_, rfl⟩
  obtain rfl : N = a + LR := by have := HLL.out; omega
  have hRC : LR ≤ C := by omega
  have c0 : ¬ C = 0 := by omega
  have r0 : ¬ LR = 0 := by omega
  have hca : ¬ a + C = a := by omega
  have HNE := Lib.hid hne; have HLR := Lib.hid hLR; clear hne hLR h0 a1 a2 a3
  have a1 : (a : Int) ≤ (a : Int) + (LR : Int) := by omega
  have a2 : (a : Int) ≤ (a : Int) + (C : Int) := by omega
  have a3 : (a : Int) + (LR : Int) ≤ (a : Int) + (C : Int) := by omega
  by_cases h13 : left.length < 13
  · have HW := Lib.hid (why_few (n := rs.length) (k := k) h13)
    have l13 : LR < 13 := by rw [← HLR.out]; exact h13
    clear h13
    go_enter Tryz.func60, Tryz.ntmps60
    go_wp2_with fail
    refine wp_region_schG (fun W => W.cell? ⟨rb, 0, none⟩ = some (.slice (some ad) (a + LR) (a + C)) ∧ W.cell? ⟨rb, 1, none⟩ = some (.int .i64 (a : Int)) ∧ W.cell? ⟨rb, 2, none⟩ = some (.int .u32 (k : Int)) ∧ W.cell? ⟨rb, 3, none⟩ = some (.slice Al n cl) ∧ rb < W.heap.size ∧ Within w W) 9 (.firm 0 (.firm 1 (.firm 2 (.firm 3 (.firm 4 (.firm 5 (.firm 6 (.firm 7 (.firm 8 (.one 9 .nil)))))))))) (by kernel_rfl) (by kernel_rfl) ⟨p0, p1, p2, p3, hrb, Within.refl _⟩ ?_
    rintro w0 ⟨p0, p1, p2, p3, hrb, hw0⟩
    try simp only [Act.put, List.setIfInBounds_toArray, List.set_cons_zero, List.set_cons_succ]
    iterate 9
      apply sch_firm rfl rfl (by repeat (first | with_reducible exact Within.refl _ | with_reducible assumption | with_reducible refine Within.alloc ?_ _ | with_reducible refine Within.drew ?_ | with_reducible refine Within.drewN ?_ _ | with_reducible refine Within.setCell ?_ (by first | (simp; done) | (simp; omega)) _ | with_reducible refine Within.trans ?_ (by assumption)))
      · intro wq hq
        have hcq := hq.cells
        clear hq
        go_simp
        rfl
      try simp only [Act.put, List.setIfInBounds_toArray, List.set_cons_zero, List.set_cons_succ]
    refine sch_one rfl rfl (fun K hK => ?_)
    go_simp
    refine hK _ _ (fun h => absurd h (by decide)) ?_
    clear hK K
    try simp only [Act.put, List.setIfInBounds_toArray, List.set_cons_zero, List.set_cons_succ]
    refine sch_nil ?_
    go_wp2
    go_ret2
    exact NextPost.why HNE.out HW.out (by decide) (by repeat (first | with_reducible exact Within.refl _ | with_reducible assumption | with_reducible refine Within.alloc ?_ _ | with_reducible refine Within.drew ?_ | with_reducible refine Within.drewN ?_ _ | with_reducible refine Within.setCell ?_ (by first | (simp; done) | (simp; omega)) _ | with_reducible refine Within.trans ?_ (by assumption)))
  obtain ⟨m, hm⟩ : ∃ m, LR = m + 13 := ⟨LR - 13, by have := HLR.out; omega⟩
  subst hm
  have a1 : (a : Int) ≤ (a : Int) + ((m : Int) + 13) := by omega
  have a3 : (a : Int) + ((m : Int) + 13) ≤ (a : Int) + (C : Int) := by omega
  have H13 := Lib.hid h13; clear h13
  obtain ⟨la, hla⟩ : ∃ la, la = ad.add a := ⟨_, rfl⟩
  rw [← hla] at HLS
  have NB : Hid (∀ (W : World) (i nn cc : Nat), i ≠ 0 → i + 4 ≤ m + 13 → 4 ≤ nn → SlAt W (some la) (u8v left) → Calls Tryz.prog 81 #[.slice (some (la.add i)) nn cc] W fun e w' => e = .returned (.int .u32 (at4 left i : Int)) ∧ Within W w') := Lib.hid (fun W i nn cc _ hi hn h => by have := number_any (la.add i) nn cc (left.drop i) (HLB.out.drop i) (by rw [List.length_drop, HLR.out]; omega) hn W (left_at h i); exact this)
  have SB : Hid (∀ (W : World) (i : Nat), i ≤ m + 13 → i ≤ 1048600 → SlAt W (some la) (u8v left) → Calls Tryz.prog 80 #[.int .u32 (k : Int), .slice (some la) i C] W fun e w' => e = .returned (.int .u32 (linkV k (left.take i) : Int)) ∧ Within W w') := Lib.hid (fun W i hi hi2 h => by
    have hl : (left.take i).length = i := by rw [List.length_take, HLR.out]; omega
    have h2 : SlAt W (some la) (u8v (left.take i)) := by have := h.take i; unfold u8v at this ⊢; rwa [← List.map_take] at this
    have := jsum_any k hk (some la) C (left.take i) (HLB.out.take i) (by omega) W h2; rw [hl] at this; exact this)
  obtain ⟨x, hx⟩ : ∃ x, left.getD 0 0 = x := ⟨_, rfl⟩
  have KX : Hid (∀ W, SlAt W (some la) (u8v left) → W.cell? la = some (.int .u8 (x : Int))) := Lib.hid (fun W h => by obtain ⟨ad', e', _, hc⟩ := SlAt.at (l := left) (k := 0) (by exact h) (by rw [HLR.out]; omega); obtain rfl := Option.some.inj e'; rw [add_nought, hx] at hc; exact hc)
  have hxl : x < 256 := by rw [← hx]; exact HLB.out.at (by rw [HLR.out]; omega)
  obtain ⟨s1, hs1⟩ : ∃ s, at4 left 9 = s := ⟨_, rfl⟩
  obtain ⟨l1, hl1⟩ : ∃ s, linkV k (left.take 9) = s := ⟨_, rfl⟩
  obtain ⟨sz, hsz⟩ : ∃ s, at4 left 5 = s := ⟨_, rfl⟩
  obtain ⟨q, hq⟩ : ∃ s, at4 left 1 = s := ⟨_, rfl⟩
  have hszl : sz < 4294967296 := by rw [← hsz]; exact at4_lt HLB.out 5
  have hql : q < 4294967296 := by rw [← hq]; exact at4_lt HLB.out 1
  have NB9 := Lib.hid (fun W => NB.out W 9 (m + 4) (C - 9) (by decide) (by omega) (by omega))
  have NB5 := Lib.hid (fun W => NB.out W 5 (m + 8) (C - 5) (by decide) (by omega) (by omega))
  have NB1 := Lib.hid (fun W => NB.out W 1 (m + 12) (C - 1) (by decide) (by omega) (by omega))
  rw [hs1, add_plain' la (by decide)] at NB9
  rw [hsz, add_plain' la (by decide)] at NB5
  rw [hq, add_plain' la (by decide)] at NB1
  have SB9 := Lib.hid (fun W => SB.out W 9 (by omega) (by omega))
  rw [hl1] at SB9
  have HX := Lib.hid hx; have HS1 := Lib.hid hs1; have HL1 := Lib.hid hl1; have HSZ := Lib.hid hsz; have HQ := Lib.hid hq; clear hx hs1 hl1 hsz hq
  have e1 : (1 : Int) ≤ (m : Int) + 13 := by omega
  have e5 : (5 : Int) ≤ (m : Int) + 13 := by omega
  have e9 : (9 : Int) ≤ (m : Int) + 13 := by omega
  have f1 : (1 : Int) ≤ (C : Int) := by omega
  have f5 : (5 : Int) ≤ (C : Int) := by omega
  have f9 : (9 : Int) ≤ (C : Int) := by omega
  have g1 : ¬ C = 1 := by omega
  have g5 : ¬ C = 5 := by omega
  have g9 : ¬ C = 9 := by omega
  have e0' : (m : Int) + 13 ≤ (C : Int) := by omega
  have z0 : (0 : Int) < (m : Int) + 13 := by omega
  have h1 : 1 ≤ m + 13 := by omega
  have h5 : 5 ≤ m + 13 := by omega
  have h9 : 9 ≤ m + 13 := by omega
  have i1 : 1 ≤ C := by omega
  have i5 : 5 ≤ C := by omega
  have i9 : 9 ≤ C := by omega
  by_cases hsum : s1 = l1
  · obtain rfl := hsum
    have n1 : ((s1 : Int) != (s1 : Int)) = false := by simp
    have HSE : Hid (¬ at4 left 9 ≠ linkV k (left.take 9)) := Lib.hid (by rw [HS1.out, HL1.out]; exact fun h => h rfl)
    have cx : IntKind.i64.wrap (x : Int) = (x : Int) := by rw [IntKind.wrap_i64]; omega
    have cn : IntKind.i64.wrap (n : Int) = (n : Int) := by rw [IntKind.wrap_i64]; omega
    have cq : IntKind.i64.wrap (q : Int) = (q : Int) := by rw [IntKind.wrap_i64]; omega
    go_enter Tryz.func60, Tryz.ntmps60
    go_wp2_with fail
    refine wp_region_schG (fun W => W.cell? ⟨rb, 0, none⟩ = some (.slice (some ad) (a + (m + 13)) (a + C)) ∧ W.cell? ⟨rb, 1, none⟩ = some (.int .i64 (a : Int)) ∧ W.cell? ⟨rb, 2, none⟩ = some (.int .u32 (k : Int)) ∧ W.cell? ⟨rb, 3, none⟩ = some (.slice Al n cl) ∧ rb < W.heap.size ∧ Within w W) 9 (.firm 0 (.firm 1 (.firm 2 (.firm 3 (.firm 4 (.firm 5 (.firm 6 (.firm 7 (.firm 8 (.one 9 .nil)))))))))) (by kernel_rfl) (by kernel_rfl) ⟨p0, p1, p2, p3, hrb, Within.refl _⟩ ?_
    rintro w0 ⟨p0, p1, p2, p3, hrb, hwr⟩
    try simp only [Act.put, List.setIfInBounds_toArray, List.set_cons_zero, List.set_cons_succ]
    iterate 9
      apply sch_firm rfl rfl (by repeat (first | with_reducible exact Within.refl _ | with_reducible assumption | with_reducible refine Within.alloc ?_ _ | with_reducible refine Within.drew ?_ | with_reducible refine Within.drewN ?_ _ | with_reducible refine Within.setCell ?_ (by first | (simp; done) | (simp; omega)) _ | with_reducible refine Within.trans ?_ (by assumption)))
      · intro wq hq
        have hcq := hq.cells
        clear hq
        go_simp
        rfl
      try simp only [Act.put, List.setIfInBounds_toArray, List.set_cons_zero, List.set_cons_succ]
    refine sch_one rfl rfl (fun K hK => ?_)
    go_simp
    refine hK _ _ (fun h => absurd h (by decide)) ?_
    clear hK K
    try simp only [Act.put, List.setIfInBounds_toArray, List.set_cons_zero, List.set_cons_succ]
    refine sch_nil ?_
    rw [← hla]
    clear hla
    have hxx : Within w0 w0.drew := (by repeat (first | with_reducible exact Within.refl _ | with_reducible assumption | with_reducible refine Within.alloc ?_ _ | with_reducible refine Within.drew ?_ | with_reducible refine Within.drewN ?_ _ | with_reducible refine Within.setCell ?_ (by first | (simp; done) | (simp; omega)) _ | with_reducible refine Within.trans ?_ (by assumption)))
    have p0 := (hxx.cells _ _ hrb).trans p0
    have p1 := (hxx.cells _ _ hrb).trans p1
    have p2 := (hxx.cells _ _ hrb).trans p2
    have p3 := (hxx.cells _ _ hrb).trans p3
    have hrb := Nat.lt_of_lt_of_le hrb hxx.size
    have HWN : Hid (Within w w0.drew) := Lib.hid (hwr.trans hxx)
    clear hxx hwr
    go_wp2_with fail
    refine wp_region_schG (fun W => W.cell? ⟨rb, 0, none⟩ = some (.slice (some ad) (a + (m + 13)) (a + C)) ∧ W.cell? ⟨rb, 1, none⟩ = some (.int .i64 (a : Int)) ∧ W.cell? ⟨rb, 2, none⟩ = some (.int .u32 (k : Int)) ∧ W.cell? ⟨rb, 3, none⟩ = some (.slice Al n cl) ∧ rb < W.heap.size ∧ SlAt W (some la) (u8v left) ∧ Within w W) 10 (.firm 0 (.firm 1 (.firm 3 (.firm 4 (.firm 5 (.firm 6 (.firm 7 (.firm 8 (.one 2 (.one 9 (.one 10 .nil))))))))))) (by kernel_rfl) (by kernel_rfl) ⟨p0, p1, p2, p3, hrb, HLS.out.of HWN.out, HWN.out⟩ ?_
    rintro w0 ⟨p0, p1, p2, p3, hrb, hls, hwr⟩
    try simp only [Act.put, List.setIfInBounds_toArray, List.set_cons_zero, List.set_cons_succ]
    iterate 8
      apply sch_firm rfl rfl (by repeat (first | with_reducible exact Within.refl _ | with_reducible assumption | with_reducible refine Within.alloc ?_ _ | with_reducible refine Within.drew ?_ | with_reducible refine Within.drewN ?_ _ | with_reducible refine Within.setCell ?_ (by first | (simp; done) | (simp; omega)) _ | with_reducible refine Within.trans ?_ (by assumption)))
      · intro wq hq
        have hcq := hq.cells
        clear hq
        go_simp
        rfl
      try simp only [Act.put, List.setIfInBounds_toArray, List.set_cons_zero, List.set_cons_succ]
    refine sch_one rfl rfl (fun K hK => ?_)
    go_simp
    refine (NB9.out _ (by exact hls.of (by repeat (first | with_reducible exact Within.refl _ | with_reducible assumption | with_reducible refine Within.alloc ?_ _ | with_reducible refine Within.drew ?_ | with_reducible refine Within.drewN ?_ _ | with_reducible refine Within.setCell ?_ (by first | (simp; done) | (simp; omega)) _ | with_reducible refine Within.trans ?_ (by assumption))))).mono ?_; rintro e2 w2 ⟨rfl, h2⟩
    refine hK _ _ (fun _ => (by repeat (first | with_reducible exact Within.refl _ | with_reducible assumption | with_reducible refine Within.alloc ?_ _ | with_reducible refine Within.drew ?_ | with_reducible refine Within.drewN ?_ _ | with_reducible refine Within.setCell ?_ (by first | (simp; done) | (simp; omega)) _ | with_reducible refine Within.trans ?_ (by assumption)))) ?_
    clear hK K
    try simp only [Act.put, List.setIfInBounds_toArray, List.set_cons_zero, List.set_cons_succ]
    refine sch_one rfl rfl (fun K hK => ?_)
    go_simp
    refine (SB9.out _ (by exact hls.of (by repeat (first | with_reducible exact Within.refl _ | with_reducible assumption | with_reducible refine Within.alloc ?_ _ | with_reducible refine Within.drew ?_ | with_reducible refine Within.drewN ?_ _ | with_reducible refine Within.setCell ?_ (by first | (simp; done) | (simp; omega)) _ | with_reducible refine Within.trans ?_ (by assumption))))).mono ?_; rintro e3 w3 ⟨rfl, h3⟩
    refine hK _ _ (fun _ => (by repeat (first | with_reducible exact Within.refl _ | with_reducible assumption | with_reducible refine Within.alloc ?_ _ | with_reducible refine Within.drew ?_ | with_reducible refine Within.drewN ?_ _ | with_reducible refine Within.setCell ?_ (by first | (simp; done) | (simp; omega)) _ | with_reducible refine Within.trans ?_ (by assumption)))) ?_
    clear hK K
    try simp only [Act.put, List.setIfInBounds_toArray, List.set_cons_zero, List.set_cons_succ]
    refine sch_one rfl rfl (fun K hK => ?_)
    go_simp
    refine hK _ _ (fun h => absurd h (by decide)) ?_
    clear hK K
    try simp only [Act.put, List.setIfInBounds_toArray, List.set_cons_zero, List.set_cons_succ]
    refine sch_nil ?_
    have hxx : Within w0 w3 := (by repeat (first | with_reducible exact Within.refl _ | with_reducible assumption | with_reducible refine Within.alloc ?_ _ | with_reducible refine Within.drew ?_ | with_reducible refine Within.drewN ?_ _ | with_reducible refine Within.setCell ?_ (by first | (simp; done) | (simp; omega)) _ | with_reducible refine Within.trans ?_ (by assumption)))
    have p0 := (hxx.cells _ _ hrb).trans p0
    have p1 := (hxx.cells _ _ hrb).trans p1
    have p2 := (hxx.cells _ _ hrb).trans p2
    have p3 := (hxx.cells _ _ hrb).trans p3
    have hrb := Nat.lt_of_lt_of_le hrb hxx.size
    have HWN : Hid (Within w w3) := Lib.hid (hwr.trans hxx)
    clear hxx hwr
    clear h2 h3 hls
    go_wp2_with fail
    refine wp_region_schG (fun W => W.cell? ⟨rb, 0, none⟩ = some (.slice (some ad) (a + (m + 13)) (a + C)) ∧ W.cell? ⟨rb, 1, none⟩ = some (.int .i64 (a : Int)) ∧ W.cell? ⟨rb, 2, none⟩ = some (.int .u32 (k : Int)) ∧ W.cell? ⟨rb, 3, none⟩ = some (.slice Al n cl) ∧ rb < W.heap.size ∧ SlAt W (some la) (u8v left) ∧ Within w W) 8 (.firm 0 (.firm 1 (.firm 2 (.firm 3 (.firm 4 (.firm 5 (.one 6 (.firm 7 (.one 8 .nil))))))))) (by kernel_rfl) (by kernel_rfl) ⟨p0, p1, p2, p3, hrb, HLS.out.of HWN.out, HWN.out⟩ ?_
    rintro w0 ⟨p0, p1, p2, p3, hrb, hls, hwr⟩
    try simp only [Act.put, List.setIfInBounds_toArray, List.set_cons_zero, List.set_cons_succ]
    iterate 6
      apply sch_firm rfl rfl (by repeat (first | with_reducible exact Within.refl _ | with_reducible assumption | with_reducible refine Within.alloc ?_ _ | with_reducible refine Within.drew ?_ | with_reducible refine Within.drewN ?_ _ | with_reducible refine Within.setCell ?_ (by first | (simp; done) | (simp; omega)) _ | with_reducible refine Within.trans ?_ (by assumption)))
      · intro wq hq
        have hcq := hq.cells
        have kx := KX.out wq (hls.of hq)
        clear hq
        go_simp
        rfl
      try simp only [Act.put, List.setIfInBounds_toArray, List.set_cons_zero, List.set_cons_succ]
    refine sch_one rfl rfl (fun K hK => ?_)
    go_simp
    refine (NB5.out _ (by exact hls.of (by repeat (first | with_reducible exact Within.refl _ | with_reducible assumption | with_reducible refine Within.alloc ?_ _ | with_reducible refine Within.drew ?_ | with_reducible refine Within.drewN ?_ _ | with_reducible refine Within.setCell ?_ (by first | (simp; done) | (simp; omega)) _ | with_reducible refine Within.trans ?_ (by assumption))))).mono ?_; rintro e3 w3 ⟨rfl, h3⟩
    refine hK _ _ (fun _ => (by repeat (first | with_reducible exact Within.refl _ | with_reducible assumption | with_reducible refine Within.alloc ?_ _ | with_reducible refine Within.drew ?_ | with_reducible refine Within.drewN ?_ _ | with_reducible refine Within.setCell ?_ (by first | (simp; done) | (simp; omega)) _ | with_reducible refine Within.trans ?_ (by assumption)))) ?_
    clear hK K
    try simp only [Act.put, List.setIfInBounds_toArray, List.set_cons_zero, List.set_cons_succ]
    apply sch_firm rfl rfl (by repeat (first | with_reducible exact Within.refl _ | with_reducible assumption | with_reducible refine Within.alloc ?_ _ | with_reducible refine Within.drew ?_ | with_reducible refine Within.drewN ?_ _ | with_reducible refine Within.setCell ?_ (by first | (simp; done) | (simp; omega)) _ | with_reducible refine Within.trans ?_ (by assumption)))
    · intro wq hq
      have hcq := hq.cells
      have kx := KX.out wq (hls.of hq)
      clear hq
      go_simp
      rfl
    try simp only [Act.put, List.setIfInBounds_toArray, List.set_cons_zero, List.set_cons_succ]
    refine sch_one rfl rfl (fun K hK => ?_)
    go_simp
    refine hK _ _ (fun h => absurd h (by decide)) ?_
    clear hK K
    try simp only [Act.put, List.setIfInBounds_toArray, List.set_cons_zero, List.set_cons_succ]
    refine sch_nil ?_
    have hxx : Within w0 w3 := (by repeat (first | with_reducible exact Within.refl _ | with_reducible assumption | with_reducible refine Within.alloc ?_ _ | with_reducible refine Within.drew ?_ | with_reducible refine Within.drewN ?_ _ | with_reducible refine Within.setCell ?_ (by first | (simp; done) | (simp; omega)) _ | with_reducible refine Within.trans ?_ (by assumption)))
    have p0 := (hxx.cells _ _ hrb).trans p0
    have p1 := (hxx.cells _ _ hrb).trans p1
    have p2 := (hxx.cells _ _ hrb).trans p2
    have p3 := (hxx.cells _ _ hrb).trans p3
    have hrb := Nat.lt_of_lt_of_le hrb hxx.size
    have HWN : Hid (Within w w3) := Lib.hid (hwr.trans hxx)
    clear hxx hwr
    clear h3 hls
    by_cases x1 : x < 1
    · have u1 : decide ((x : Int) < 1) = true := decide_eq_true (by omega)
      have HW := Lib.hid (why_form (b := left) (n := rs.length) (k := k) H13.out HSE.out (by rw [HX.out, HQ.out, HSZ.out, HN.out]; exact .inl x1))
      go_wp2_with fail
      refine wp_region_schG (fun W => W.cell? ⟨rb, 0, none⟩ = some (.slice (some ad) (a + (m + 13)) (a + C)) ∧ W.cell? ⟨rb, 1, none⟩ = some (.int .i64 (a : Int)) ∧ W.cell? ⟨rb, 2, none⟩ = some (.int .u32 (k : Int)) ∧ W.cell? ⟨rb, 3, none⟩ = some (.slice Al n cl) ∧ rb < W.heap.size ∧ SlAt W (some la) (u8v left) ∧ Within w W) 29 (.firm 0 (.firm 1 (.firm 2 (.firm 3 (.firm 4 (.firm 5 (.firm 6 (.firm 7 (.firm 8 (.firm 11 (.firm 12 (.firm 13 (.firm 14 (.firm 15 (.one 9 (.firm 10 (.firm 16 (.firm 17 (.firm 18 (.firm 19 (.firm 20 (.firm 21 (.firm 22 (.firm 23 (.firm 24 (.firm 25 (.firm 26 (.firm 27 (.firm 28 (.one 29 .nil)))))))))))))))))))))))))))))) (by kernel_rfl) (by kernel_rfl) ⟨p0, p1, p2, p3, hrb, HLS.out.of HWN.out, HWN.out⟩ ?_
      rintro w0 ⟨p0, p1, p2, p3, hrb, hls, hwr⟩
      try simp only [Act.put, List.setIfInBounds_toArray, List.set_cons_zero, List.set_cons_succ]
      iterate 3
        apply sch_firm rfl rfl (by repeat (first | with_reducible exact Within.refl _ | with_reducible assumption | with_reducible refine Within.alloc ?_ _ | with_reducible refine Within.drew ?_ | with_reducible refine Within.drewN ?_ _ | with_reducible refine Within.setCell ?_ (by first | (simp; done) | (simp; omega)) _ | with_reducible refine Within.trans ?_ (by assumption)))
        · intro wq hq
          have hcq := hq.cells
          clear hq
          go_simp
          rfl
        try simp only [Act.put, List.setIfInBounds_toArray, List.set_cons_zero, List.set_cons_succ]
      iterate 2
        refine sch_skip rfl (by first | rfl | decide | (simp [Region.wanted, yielded]; done)) (by repeat (first | with_reducible exact Within.refl _ | with_reducible assumption | with_reducible refine Within.alloc ?_ _ | with_reducible refine Within.drew ?_ | with_reducible refine Within.drewN ?_ _ | with_reducible refine Within.setCell ?_ (by first | (simp; done) | (simp; omega)) _ | with_reducible refine Within.trans ?_ (by assumption))) ?_
        try simp only [Act.put, List.setIfInBounds_toArray, List.set_cons_zero, List.set_cons_succ]
      iterate 2
        apply sch_firm rfl rfl (by repeat (first | with_reducible exact Within.refl _ | with_reducible assumption | with_reducible refine Within.alloc ?_ _ | with_reducible refine Within.drew ?_ | with_reducible refine Within.drewN ?_ _ | with_reducible refine Within.setCell ?_ (by first | (simp; done) | (simp; omega)) _ | with_reducible refine Within.trans ?_ (by assumption)))
        · intro wq hq
          have hcq := hq.cells
          clear hq
          go_simp
          rfl
        try simp only [Act.put, List.setIfInBounds_toArray, List.set_cons_zero, List.set_cons_succ]
      iterate 7
        refine sch_skip rfl (by first | rfl | decide | (simp [Region.wanted, yielded]; done)) (by repeat (first | with_reducible exact Within.refl _ | with_reducible assumption | with_reducible refine Within.alloc ?_ _ | with_reducible refine Within.drew ?_ | with_reducible refine Within.drewN ?_ _ | with_reducible refine Within.setCell ?_ (by first | (simp; done) | (simp; omega)) _ | with_reducible refine Within.trans ?_ (by assumption))) ?_
        try simp only [Act.put, List.setIfInBounds_toArray, List.set_cons_zero, List.set_cons_succ]
      refine sch_one_skip rfl (by first | rfl | decide | (simp [Region.wanted, yielded]; done)) (by repeat (first | with_reducible exact Within.refl _ | with_reducible assumption | with_reducible refine Within.alloc ?_ _ | with_reducible refine Within.drew ?_ | with_reducible refine Within.drewN ?_ _ | with_reducible refine Within.setCell ?_ (by first | (simp; done) | (simp; omega)) _ | with_reducible refine Within.trans ?_ (by assumption))) ?_
      try simp only [Act.put, List.setIfInBounds_toArray, List.set_cons_zero, List.set_cons_succ]
      iterate 2
        refine sch_skip rfl (by first | rfl | decide | (simp [Region.wanted, yielded]; done)) (by repeat (first | with_reducible exact Within.refl _ | with_reducible assumption | with_reducible refine Within.alloc ?_ _ | with_reducible refine Within.drew ?_ | with_reducible refine Within.drewN ?_ _ | with_reducible refine Within.setCell ?_ (by first | (simp; done) | (simp; omega)) _ | with_reducible refine Within.trans ?_ (by assumption))) ?_
        try simp only [Act.put, List.setIfInBounds_toArray, List.set_cons_zero, List.set_cons_succ]
      iterate 2
        apply sch_firm rfl rfl (by repeat (first | with_reducible exact Within.refl _ | with_reducible assumption | with_reducible refine Within.alloc ?_ _ | with_reducible refine Within.drew ?_ | with_reducible refine Within.drewN ?_ _ | with_reducible refine Within.setCell ?_ (by first | (simp; done) | (simp; omega)) _ | with_reducible refine Within.trans ?_ (by assumption)))
        · intro wq hq
          have hcq := hq.cells
          clear hq
          go_simp
          rfl
        try simp only [Act.put, List.setIfInBounds_toArray, List.set_cons_zero, List.set_cons_succ]
      iterate 2
        refine sch_skip rfl (by first | rfl | decide | (simp [Region.wanted, yielded]; done)) (by repeat (first | with_reducible exact Within.refl _ | with_reducible assumption | with_reducible refine Within.alloc ?_ _ | with_reducible refine Within.drew ?_ | with_reducible refine Within.drewN ?_ _ | with_reducible refine Within.setCell ?_ (by first | (simp; done) | (simp; omega)) _ | with_reducible refine Within.trans ?_ (by assumption))) ?_
        try simp only [Act.put, List.setIfInBounds_toArray, List.set_cons_zero, List.set_cons_succ]
      iterate 2
        apply sch_firm rfl rfl (by repeat (first | with_reducible exact Within.refl _ | with_reducible assumption | with_reducible refine Within.alloc ?_ _ | with_reducible refine Within.drew ?_ | with_reducible refine Within.drewN ?_ _ | with_reducible refine Within.setCell ?_ (by first | (simp; done) | (simp; omega)) _ | with_reducible refine Within.trans ?_ (by assumption)))
        · intro wq hq
          have hcq := hq.cells
          clear hq
          go_simp
          rfl
        try simp only [Act.put, List.setIfInBounds_toArray, List.set_cons_zero, List.set_cons_succ]
      iterate 6
        refine sch_skip rfl (by first | rfl | decide | (simp [Region.wanted, yielded]; done)) (by repeat (first | with_reducible exact Within.refl _ | with_reducible assumption | with_reducible refine Within.alloc ?_ _ | with_reducible refine Within.drew ?_ | with_reducible refine Within.drewN ?_ _ | with_reducible refine Within.setCell ?_ (by first | (simp; done) | (simp; omega)) _ | with_reducible refine Within.trans ?_ (by assumption))) ?_
        try simp only [Act.put, List.setIfInBounds_toArray, List.set_cons_zero, List.set_cons_succ]
      refine sch_one rfl rfl (fun K hK => ?_)
      go_simp
      refine hK _ _ (fun h => absurd h (by decide)) ?_
      clear hK K
      try simp only [Act.put, List.setIfInBounds_toArray, List.set_cons_zero, List.set_cons_succ]
      refine sch_nil ?_
      go_wp2
      go_ret2
      exact NextPost.why HNE.out HW.out (by decide) (by repeat (first | with_reducible exact Within.refl _ | with_reducible assumption | with_reducible refine Within.alloc ?_ _ | with_reducible refine Within.drew ?_ | with_reducible refine Within.drewN ?_ _ | with_reducible refine Within.setCell ?_ (by first | (simp; done) | (simp; omega)) _ | with_reducible refine Within.trans ?_ (by assumption)))
    · by_cases x2 : 3 < x
      · have u1 : decide ((x : Int) < 1) = false := decide_eq_false (by omega)
        have u2 : decide ((x : Int) > 3) = true := decide_eq_true (by omega)
        have HW := Lib.hid (why_form (b := left) (n := rs.length) (k := k) H13.out HSE.out (by rw [HX.out, HQ.out, HSZ.out, HN.out]; exact .inr (.inl x2)))
        go_wp2_with fail
        refine wp_region_schG (fun W => W.cell? ⟨rb, 0, none⟩ = some (.slice (some ad) (a + (m + 13)) (a + C)) ∧ W.cell? ⟨rb, 1, none⟩ = some (.int .i64 (a : Int)) ∧ W.cell? ⟨rb, 2, none⟩ = some (.int .u32 (k : Int)) ∧ W.cell? ⟨rb, 3, none⟩ = some (.slice Al n cl) ∧ rb < W.heap.size ∧ SlAt W (some la) (u8v left) ∧ Within w W) 29 (.firm 0 (.firm 1 (.firm 2 (.firm 3 (.firm 4 (.firm 5 (.firm 6 (.firm 7 (.firm 8 (.firm 11 (.firm 12 (.firm 13 (.firm 14 (.firm 15 (.one 9 (.firm 10 (.firm 16 (.firm 17 (.firm 18 (.firm 19 (.firm 20 (.firm 21 (.firm 22 (.firm 23 (.firm 24 (.firm 25 (.firm 26 (.firm 27 (.firm 28 (.one 29 .nil)))))))))))))))))))))))))))))) (by kernel_rfl) (by kernel_rfl) ⟨p0, p1, p2, p3, hrb, HLS.out.of HWN.out, HWN.out⟩ ?_
        rintro w0 ⟨p0, p1, p2, p3, hrb, hls, hwr⟩
        try simp only [Act.put, List.setIfInBounds_toArray, List.set_cons_zero, List.set_cons_succ]
        iterate 3
          apply sch_firm rfl rfl (by repeat (first | with_reducible exact Within.refl _ | with_reducible assumption | with_reducible refine Within.alloc ?_ _ | with_reducible refine Within.drew ?_ | with_reducible refine Within.drewN ?_ _ | with_reducible refine Within.setCell ?_ (by first | (simp; done) | (simp; omega)) _ | with_reducible refine Within.trans ?_ (by assumption)))
          · intro wq hq
            have hcq := hq.cells
            clear hq
            go_simp
            rfl
          try simp only [Act.put, List.setIfInBounds_toArray, List.set_cons_zero, List.set_cons_succ]
        iterate 2
          apply sch_want rfl (by first | rfl | decide | (simp [Region.wanted, yielded]; done)) (by repeat (first | with_reducible exact Within.refl _ | with_reducible assumption | with_reducible refine Within.alloc ?_ _ | with_reducible refine Within.drew ?_ | with_reducible refine Within.drewN ?_ _ | with_reducible refine Within.setCell ?_ (by first | (simp; done) | (simp; omega)) _ | with_reducible refine Within.trans ?_ (by assumption)))
          · intro wq hq
            have hcq := hq.cells
            clear hq
            go_simp
            rfl
          try simp only [Act.put, List.setIfInBounds_toArray, List.set_cons_zero, List.set_cons_succ]
        iterate 2
          apply sch_firm rfl rfl (by repeat (first | with_reducible exact Within.refl _ | with_reducible assumption | with_reducible refine Within.alloc ?_ _ | with_reducible refine Within.drew ?_ | with_reducible refine Within.drewN ?_ _ | with_reducible refine Within.setCell ?_ (by first | (simp; done) | (simp; omega)) _ | with_reducible refine Within.trans ?_ (by assumption)))
          · intro wq hq
            have hcq := hq.cells
            clear hq
            go_simp
            rfl
          try simp only [Act.put, List.setIfInBounds_toArray, List.set_cons_zero, List.set_cons_succ]
        iterate 7
          refine sch_skip rfl (by first | rfl | decide | (simp [Region.wanted, yielded]; done)) (by repeat (first | with_reducible exact Within.refl _ | with_reducible assumption | with_reducible refine Within.alloc ?_ _ | with_reducible refine Within.drew ?_ | with_reducible refine Within.drewN ?_ _ | with_reducible refine Within.setCell ?_ (by first | (simp; done) | (simp; omega)) _ | with_reducible refine Within.trans ?_ (by assumption))) ?_
          try simp only [Act.put, List.setIfInBounds_toArray, List.set_cons_zero, List.set_cons_succ]
        refine sch_one_skip rfl (by first | rfl | decide | (simp [Region.wanted, yielded]; done)) (by repeat (first | with_reducible exact Within.refl _ | with_reducible assumption | with_reducible refine Within.alloc ?_ _ | with_reducible refine Within.drew ?_ | with_reducible refine Within.drewN ?_ _ | with_reducible refine Within.setCell ?_ (by first | (simp; done) | (simp; omega)) _ | with_reducible refine Within.trans ?_ (by assumption))) ?_
        try simp only [Act.put, List.setIfInBounds_toArray, List.set_cons_zero, List.set_cons_succ]
        iterate 2
          refine sch_skip rfl (by first | rfl | decide | (simp [Region.wanted, yielded]; done)) (by repeat (first | with_reducible exact Within.refl _ | with_reducible assumption | with_reducible refine Within.alloc ?_ _ | with_reducible refine Within.drew ?_ | with_reducible refine Within.drewN ?_ _ | with_reducible refine Within.setCell ?_ (by first | (simp; done) | (simp; omega)) _ | with_reducible refine Within.trans ?_ (by assumption))) ?_
          try simp only [Act.put, List.setIfInBounds_toArray, List.set_cons_zero, List.set_cons_succ]
        iterate 2
          apply sch_firm rfl rfl (by repeat (first | with_reducible exact Within.refl _ | with_reducible assumption | with_reducible refine Within.alloc ?_ _ | with_reducible refine Within.drew ?_ | with_reducible refine Within.drewN ?_ _ | with_reducible refine Within.setCell ?_ (by first | (simp; done) | (simp; omega)) _ | with_reducible refine Within.trans ?_ (by assumption)))
          · intro wq hq
            have hcq := hq.cells
            clear hq
            go_simp
            rfl
          try simp only [Act.put, List.setIfInBounds_toArray, List.set_cons_zero, List.set_cons_succ]
        iterate 2
          refine sch_skip rfl (by first | rfl | decide | (simp [Region.wanted, yielded]; done)) (by repeat (first | with_reducible exact Within.refl _ | with_reducible assumption | with_reducible refine Within.alloc ?_ _ | with_reducible refine Within.drew ?_ | with_reducible refine Within.drewN ?_ _ | with_reducible refine Within.setCell ?_ (by first | (simp; done) | (simp; omega)) _ | with_reducible refine Within.trans ?_ (by assumption))) ?_
          try simp only [Act.put, List.setIfInBounds_toArray, List.set_cons_zero, List.set_cons_succ]
        iterate 2
          apply sch_firm rfl rfl (by repeat (first | with_reducible exact Within.refl _ | with_reducible assumption | with_reducible refine Within.alloc ?_ _ | with_reducible refine Within.drew ?_ | with_reducible refine Within.drewN ?_ _ | with_reducible refine Within.setCell ?_ (by first | (simp; done) | (simp; omega)) _ | with_reducible refine Within.trans ?_ (by assumption)))
          · intro wq hq
            have hcq := hq.cells
            clear hq
            go_simp
            rfl
          try simp only [Act.put, List.setIfInBounds_toArray, List.set_cons_zero, List.set_cons_succ]
        iterate 6
          refine sch_skip rfl (by first | rfl | decide | (simp [Region.wanted, yielded]; done)) (by repeat (first | with_reducible exact Within.refl _ | with_reducible assumption | with_reducible refine Within.alloc ?_ _ | with_reducible refine Within.drew ?_ | with_reducible refine Within.drewN ?_ _ | with_reducible refine Within.setCell ?_ (by first | (simp; done) | (simp; omega)) _ | with_reducible refine Within.trans ?_ (by assumption))) ?_
          try simp only [Act.put, List.setIfInBounds_toArray, List.set_cons_zero, List.set_cons_succ]
        refine sch_one rfl rfl (fun K hK => ?_)
        go_simp
        refine hK _ _ (fun h => absurd h (by decide)) ?_
        clear hK K
        try simp only [Act.put, List.setIfInBounds_toArray, List.set_cons_zero, List.set_cons_succ]
        refine sch_nil ?_
        go_wp2
        go_ret2
        exact NextPost.why HNE.out HW.out (by decide) (by repeat (first | with_reducible exact Within.refl _ | with_reducible assumption | with_reducible refine Within.alloc ?_ _ | with_reducible refine Within.drew ?_ | with_reducible refine Within.drewN ?_ _ | with_reducible refine Within.setCell ?_ (by first | (simp; done) | (simp; omega)) _ | with_reducible refine Within.trans ?_ (by assumption)))
      · by_cases x3 : q = n
        · by_cases x4 : 1048576 < sz
          · have u1 : decide ((x : Int) < 1) = false := decide_eq_false (by omega)
            have u2 : decide ((x : Int) > 3) = false := decide_eq_false (by omega)
            have u3 : ((q : Int) != (n : Int)) = false := by rw [bne_eq_false_iff_eq]; omega
            have u4 : decide ((sz : Int) > 1048576) = true := decide_eq_true (by omega)
            have HW := Lib.hid (why_form (b := left) (n := rs.length) (k := k) H13.out HSE.out (by rw [HX.out, HQ.out, HSZ.out, HN.out]; exact .inr (.inr (.inr (.inl x4)))))
            go_wp2_with fail
            refine wp_region_schG (fun W => W.cell? ⟨rb, 0, none⟩ = some (.slice (some ad) (a + (m + 13)) (a + C)) ∧ W.cell? ⟨rb, 1, none⟩ = some (.int .i64 (a : Int)) ∧ W.cell? ⟨rb, 2, none⟩ = some (.int .u32 (k : Int)) ∧ W.cell? ⟨rb, 3, none⟩ = some (.slice Al n cl) ∧ rb < W.heap.size ∧ SlAt W (some la) (u8v left) ∧ Within w W) 29 (.firm 0 (.firm 1 (.firm 2 (.firm 3 (.firm 4 (.firm 5 (.firm 6 (.firm 7 (.firm 8 (.firm 11 (.firm 12 (.firm 13 (.firm 14 (.firm 15 (.one 9 (.firm 10 (.firm 16 (.firm 17 (.firm 18 (.firm 19 (.firm 20 (.firm 21 (.firm 22 (.firm 23 (.firm 24 (.firm 25 (.firm 26 (.firm 27 (.firm 28 (.one 29 .nil)))))))))))))))))))))))))))))) (by kernel_rfl) (by kernel_rfl) ⟨p0, p1, p2, p3, hrb, HLS.out.of HWN.out, HWN.out⟩ ?_
            rintro w0 ⟨p0, p1, p2, p3, hrb, hls, hwr⟩
            try simp only [Act.put, List.setIfInBounds_toArray, List.set_cons_zero, List.set_cons_succ]
            iterate 3
              apply sch_firm rfl rfl (by repeat (first | with_reducible exact Within.refl _ | with_reducible assumption | with_reducible refine Within.alloc ?_ _ | with_reducible refine Within.drew ?_ | with_reducible refine Within.drewN ?_ _ | with_reducible refine Within.setCell ?_ (by first | (simp; done) | (simp; omega)) _ | with_reducible refine Within.trans ?_ (by assumption)))
              · intro wq hq
                have hcq := hq.cells
                clear hq
                go_simp
                rfl
              try simp only [Act.put, List.setIfInBounds_toArray, List.set_cons_zero, List.set_cons_succ]
            iterate 2
              apply sch_want rfl (by first | rfl | decide | (simp [Region.wanted, yielded]; done)) (by repeat (first | with_reducible exact Within.refl _ | with_reducible assumption | with_reducible refine Within.alloc ?_ _ | with_reducible refine Within.drew ?_ | with_reducible refine Within.drewN ?_ _ | with_reducible refine Within.setCell ?_ (by first | (simp; done) | (simp; omega)) _ | with_reducible refine Within.trans ?_ (by assumption)))
              · intro wq hq
                have hcq := hq.cells
                clear hq
                go_simp
                rfl
              try simp only [Act.put, List.setIfInBounds_toArray, List.set_cons_zero, List.set_cons_succ]
            iterate 2
              apply sch_firm rfl rfl (by repeat (first | with_reducible exact Within.refl _ | with_reducible assumption | with_reducible refine Within.alloc ?_ _ | with_reducible refine Within.drew ?_ | with_reducible refine Within.drewN ?_ _ | with_reducible refine Within.setCell ?_ (by first | (simp; done) | (simp; omega)) _ | with_reducible refine Within.trans ?_ (by assumption)))
              · intro wq hq
                have hcq := hq.cells
                clear hq
                go_simp
                rfl
              try simp only [Act.put, List.setIfInBounds_toArray, List.set_cons_zero, List.set_cons_succ]
            iterate 7
              apply sch_want rfl (by first | rfl | decide | (simp [Region.wanted, yielded]; done)) (by repeat (first | with_reducible exact Within.refl _ | with_reducible assumption | with_reducible refine Within.alloc ?_ _ | with_reducible refine Within.drew ?_ | with_reducible refine Within.drewN ?_ _ | with_reducible refine Within.setCell ?_ (by first | (simp; done) | (simp; omega)) _ | with_reducible refine Within.trans ?_ (by assumption)))
              · intro wq hq
                have hcq := hq.cells
                clear hq
                go_simp
                rfl
              try simp only [Act.put, List.setIfInBounds_toArray, List.set_cons_zero, List.set_cons_succ]
            refine sch_one_want rfl (by first | rfl | decide | (simp [Region.wanted, yielded]; done)) (fun K hK => ?_)
            go_simp
            refine (NB1.out _ (by exact hls.of (by repeat (first | with_reducible exact Within.refl _ | with_reducible assumption | with_reducible refine Within.alloc ?_ _ | with_reducible refine Within.drew ?_ | with_reducible refine Within.drewN ?_ _ | with_reducible refine Within.setCell ?_ (by first | (simp; done) | (simp; omega)) _ | with_reducible refine Within.trans ?_ (by assumption))))).mono ?_; rintro e4 w4 ⟨rfl, h4⟩
            refine hK _ _ (fun _ => (by repeat (first | with_reducible exact Within.refl _ | with_reducible assumption | with_reducible refine Within.alloc ?_ _ | with_reducible refine Within.drew ?_ | with_reducible refine Within.drewN ?_ _ | with_reducible refine Within.setCell ?_ (by first | (simp; done) | (simp; omega)) _ | with_reducible refine Within.trans ?_ (by assumption)))) ?_
            clear hK K
            try simp only [Act.put, List.setIfInBounds_toArray, List.set_cons_zero, List.set_cons_succ]
            iterate 2
              apply sch_want rfl (by first | rfl | decide | (simp [Region.wanted, yielded]; done)) (by repeat (first | with_reducible exact Within.refl _ | with_reducible assumption | with_reducible refine Within.alloc ?_ _ | with_reducible refine Within.drew ?_ | with_reducible refine Within.drewN ?_ _ | with_reducible refine Within.setCell ?_ (by first | (simp; done) | (simp; omega)) _ | with_reducible refine Within.trans ?_ (by assumption)))
              · intro wq hq
                have hcq := hq.cells
                clear hq
                go_simp
                rfl
              try simp only [Act.put, List.setIfInBounds_toArray, List.set_cons_zero, List.set_cons_succ]
            iterate 2
              apply sch_firm rfl rfl (by repeat (first | with_reducible exact Within.refl _ | with_reducible assumption | with_reducible refine Within.alloc ?_ _ | with_reducible refine Within.drew ?_ | with_reducible refine Within.drewN ?_ _ | with_reducible refine Within.setCell ?_ (by first | (simp; done) | (simp; omega)) _ | with_reducible refine Within.trans ?_ (by assumption)))
              · intro wq hq
                have hcq := hq.cells
                clear hq
                go_simp
                rfl
              try simp only [Act.put, List.setIfInBounds_toArray, List.set_cons_zero, List.set_cons_succ]
            iterate 2
              apply sch_want rfl (by first | rfl | decide | (simp [Region.wanted, yielded]; done)) (by repeat (first | with_reducible exact Within.refl _ | with_reducible assumption | with_reducible refine Within.alloc ?_ _ | with_reducible refine Within.drew ?_ | with_reducible refine Within.drewN ?_ _ | with_reducible refine Within.setCell ?_ (by first | (simp; done) | (simp; omega)) _ | with_reducible refine Within.trans ?_ (by assumption)))
              · intro wq hq
                have hcq := hq.cells
                clear hq
                go_simp
                rfl
              try simp only [Act.put, List.setIfInBounds_toArray, List.set_cons_zero, List.set_cons_succ]
            iterate 2
              apply sch_firm rfl rfl (by repeat (first | with_reducible exact Within.refl _ | with_reducible assumption | with_reducible refine Within.alloc ?_ _ | with_reducible refine Within.drew ?_ | with_reducible refine Within.drewN ?_ _ | with_reducible refine Within.setCell ?_ (by first | (simp; done) | (simp; omega)) _ | with_reducible refine Within.trans ?_ (by assumption)))
              · intro wq hq
                have hcq := hq.cells
                clear hq
                go_simp
                rfl
              try simp only [Act.put, List.setIfInBounds_toArray, List.set_cons_zero, List.set_cons_succ]
            iterate 6
              refine sch_skip rfl (by first | rfl | decide | (simp [Region.wanted, yielded]; done)) (by repeat (first | with_reducible exact Within.refl _ | with_reducible assumption | with_reducible refine Within.alloc ?_ _ | with_reducible refine Within.drew ?_ | with_reducible refine Within.drewN ?_ _ | with_reducible refine Within.setCell ?_ (by first | (simp; done) | (simp; omega)) _ | with_reducible refine Within.trans ?_ (by assumption))) ?_
              try simp only [Act.put, List.setIfInBounds_toArray, List.set_cons_zero, List.set_cons_succ]
            refine sch_one rfl rfl (fun K hK => ?_)
            go_simp
            refine hK _ _ (fun h => absurd h (by decide)) ?_
            clear hK K
            try simp only [Act.put, List.setIfInBounds_toArray, List.set_cons_zero, List.set_cons_succ]
            refine sch_nil ?_
            go_wp2
            go_ret2
            exact NextPost.why HNE.out HW.out (by decide) (by repeat (first | with_reducible exact Within.refl _ | with_reducible assumption | with_reducible refine Within.alloc ?_ _ | with_reducible refine Within.drew ?_ | with_reducible refine Within.drewN ?_ _ | with_reducible refine Within.setCell ?_ (by first | (simp; done) | (simp; omega)) _ | with_reducible refine Within.trans ?_ (by assumption)))
          · by_cases x5 : 1048576 ≤ n
            · have u1 : decide ((x : Int) < 1) = false := decide_eq_false (by omega)
              have u2 : decide ((x : Int) > 3) = false := decide_eq_false (by omega)
              have u3 : ((q : Int) != (n : Int)) = false := by rw [bne_eq_false_iff_eq]; omega
              have u4 : decide ((sz : Int) > 1048576) = false := decide_eq_false (by omega)
              have u5 : decide ((n : Int) ≥ 1048576) = true := decide_eq_true (by omega)
              have HW := Lib.hid (why_form (b := left) (n := rs.length) (k := k) H13.out HSE.out (by rw [HX.out, HQ.out, HSZ.out, HN.out]; exact .inr (.inr (.inr (.inr x5)))))
              go_wp2_with fail
              refine wp_region_schG (fun W => W.cell? ⟨rb, 0, none⟩ = some (.slice (some ad) (a + (m + 13)) (a + C)) ∧ W.cell? ⟨rb, 1, none⟩ = some (.int .i64 (a : Int)) ∧ W.cell? ⟨rb, 2, none⟩ = some (.int .u32 (k : Int)) ∧ W.cell? ⟨rb, 3, none⟩ = some (.slice Al n cl) ∧ rb < W.heap.size ∧ SlAt W (some la) (u8v left) ∧ Within w W) 29 (.firm 0 (.firm 1 (.firm 2 (.firm 3 (.firm 4 (.firm 5 (.firm 6 (.firm 7 (.firm 8 (.firm 11 (.firm 12 (.firm 13 (.firm 14 (.firm 15 (.one 9 (.firm 10 (.firm 16 (.firm 17 (.firm 18 (.firm 19 (.firm 20 (.firm 21 (.firm 22 (.firm 23 (.firm 24 (.firm 25 (.firm 26 (.firm 27 (.firm 28 (.one 29 .nil)))))))))))))))))))))))))))))) (by kernel_rfl) (by kernel_rfl) ⟨p0, p1, p2, p3, hrb, HLS.out.of HWN.out, HWN.out⟩ ?_
              rintro w0 ⟨p0, p1, p2, p3, hrb, hls, hwr⟩
              try simp only [Act.put, List.setIfInBounds_toArray, List.set_cons_zero, List.set_cons_succ]
              iterate 3
                apply sch_firm rfl rfl (by repeat (first | with_reducible exact Within.refl _ | with_reducible assumption | with_reducible refine Within.alloc ?_ _ | with_reducible refine Within.drew ?_ | with_reducible refine Within.drewN ?_ _ | with_reducible refine Within.setCell ?_ (by first | (simp; done) | (simp; omega)) _ | with_reducible refine Within.trans ?_ (by assumption)))
                · intro wq hq
                  have hcq := hq.cells
                  clear hq
                  go_simp
                  rfl
                try simp only [Act.put, List.setIfInBounds_toArray, List.set_cons_zero, List.set_cons_succ]
              iterate 2
                apply sch_want rfl (by first | rfl | decide | (simp [Region.wanted, yielded]; done)) (by repeat (first | with_reducible exact Within.refl _ | with_reducible assumption | with_reducible refine Within.alloc ?_ _ | with_reducible refine Within.drew ?_ | with_reducible refine Within.drewN ?_ _ | with_reducible refine Within.setCell ?_ (by first | (simp; done) | (simp; omega)) _ | with_reducible refine Within.trans ?_ (by assumption)))
                · intro wq hq
                  have hcq := hq.cells
                  clear hq
                  go_simp
                  rfl
                try simp only [Act.put, List.setIfInBounds_toArray, List.set_cons_zero, List.set_cons_succ]
              iterate 2
                apply sch_firm rfl rfl (by repeat (first | with_reducible exact Within.refl _ | with_reducible assumption | with_reducible refine Within.alloc ?_ _ | with_reducible refine Within.drew ?_ | with_reducible refine Within.drewN ?_ _ | with_reducible refine Within.setCell ?_ (by first | (simp; done) | (simp; omega)) _ | with_reducible refine Within.trans ?_ (by assumption)))
                · intro wq hq
                  have hcq := hq.cells
                  clear hq
                  go_simp
                  rfl
                try simp only [Act.put, List.setIfInBounds_toArray, List.set_cons_zero, List.set_cons_succ]
              iterate 7
                apply sch_want rfl (by first | rfl | decide | (simp [Region.wanted, yielded]; done)) (by repeat (first | with_reducible exact Within.refl _ | with_reducible assumption | with_reducible refine Within.alloc ?_ _ | with_reducible refine Within.drew ?_ | with_reducible refine Within.drewN ?_ _ | with_reducible refine Within.setCell ?_ (by first | (simp; done) | (simp; omega)) _ | with_reducible refine Within.trans ?_ (by assumption)))
                · intro wq hq
                  have hcq := hq.cells
                  clear hq
                  go_simp
                  rfl
                try simp only [Act.put, List.setIfInBounds_toArray, List.set_cons_zero, List.set_cons_succ]
              refine sch_one_want rfl (by first | rfl | decide | (simp [Region.wanted, yielded]; done)) (fun K hK => ?_)
              go_simp
              refine (NB1.out _ (by exact hls.of (by repeat (first | with_reducible exact Within.refl _ | with_reducible assumption | with_reducible refine Within.alloc ?_ _ | with_reducible refine Within.drew ?_ | with_reducible refine Within.drewN ?_ _ | with_reducible refine Within.setCell ?_ (by first | (simp; done) | (simp; omega)) _ | with_reducible refine Within.trans ?_ (by assumption))))).mono ?_; rintro e4 w4 ⟨rfl, h4⟩
              refine hK _ _ (fun _ => (by repeat (first | with_reducible exact Within.refl _ | with_reducible assumption | with_reducible refine Within.alloc ?_ _ | with_reducible refine Within.drew ?_ | with_reducible refine Within.drewN ?_ _ | with_reducible refine Within.setCell ?_ (by first | (simp; done) | (simp; omega)) _ | with_reducible refine Within.trans ?_ (by assumption)))) ?_
              clear hK K
              try simp only [Act.put, List.setIfInBounds_toArray, List.set_cons_zero, List.set_cons_succ]
              iterate 2
                apply sch_want rfl (by first | rfl | decide | (simp [Region.wanted, yielded]; done)) (by repeat (first | with_reducible exact Within.refl _ | with_reducible assumption | with_reducible refine Within.alloc ?_ _ | with_reducible refine Within.drew ?_ | with_reducible refine Within.drewN ?_ _ | with_reducible refine Within.setCell ?_ (by first | (simp; done) | (simp; omega)) _ | with_reducible refine Within.trans ?_ (by assumption)))
                · intro wq hq
                  have hcq := hq.cells
                  clear hq
                  go_simp
                  rfl
                try simp only [Act.put, List.setIfInBounds_toArray, List.set_cons_zero, List.set_cons_succ]
              iterate 2
                apply sch_firm rfl rfl (by repeat (first | with_reducible exact Within.refl _ | with_reducible assumption | with_reducible refine Within.alloc ?_ _ | with_reducible refine Within.drew ?_ | with_reducible refine Within.drewN ?_ _ | with_reducible refine Within.setCell ?_ (by first | (simp; done) | (simp; omega)) _ | with_reducible refine Within.trans ?_ (by assumption)))
                · intro wq hq
                  have hcq := hq.cells
                  clear hq
                  go_simp
                  rfl
                try simp only [Act.put, List.setIfInBounds_toArray, List.set_cons_zero, List.set_cons_succ]
              iterate 2
                apply sch_want rfl (by first | rfl | decide | (simp [Region.wanted, yielded]; done)) (by repeat (first | with_reducible exact Within.refl _ | with_reducible assumption | with_reducible refine Within.alloc ?_ _ | with_reducible refine Within.drew ?_ | with_reducible refine Within.drewN ?_ _ | with_reducible refine Within.setCell ?_ (by first | (simp; done) | (simp; omega)) _ | with_reducible refine Within.trans ?_ (by assumption)))
                · intro wq hq
                  have hcq := hq.cells
                  clear hq
                  go_simp
                  rfl
                try simp only [Act.put, List.setIfInBounds_toArray, List.set_cons_zero, List.set_cons_succ]
              iterate 2
                apply sch_firm rfl rfl (by repeat (first | with_reducible exact Within.refl _ | with_reducible assumption | with_reducible refine Within.alloc ?_ _ | with_reducible refine Within.drew ?_ | with_reducible refine Within.drewN ?_ _ | with_reducible refine Within.setCell ?_ (by first | (simp; done) | (simp; omega)) _ | with_reducible refine Within.trans ?_ (by assumption)))
                · intro wq hq
                  have hcq := hq.cells
                  clear hq
                  go_simp
                  rfl
                try simp only [Act.put, List.setIfInBounds_toArray, List.set_cons_zero, List.set_cons_succ]
              iterate 6
                apply sch_want rfl (by first | rfl | decide | (simp [Region.wanted, yielded]; done)) (by repeat (first | with_reducible exact Within.refl _ | with_reducible assumption | with_reducible refine Within.alloc ?_ _ | with_reducible refine Within.drew ?_ | with_reducible refine Within.drewN ?_ _ | with_reducible refine Within.setCell ?_ (by first | (simp; done) | (simp; omega)) _ | with_reducible refine Within.trans ?_ (by assumption)))
                · intro wq hq
                  have hcq := hq.cells
                  clear hq
                  go_simp
                  rfl
                try simp only [Act.put, List.setIfInBounds_toArray, List.set_cons_zero, List.set_cons_succ]
              refine sch_one rfl rfl (fun K hK => ?_)
              go_simp
              refine hK _ _ (fun h => absurd h (by decide)) ?_
              clear hK K
              try simp only [Act.put, List.setIfInBounds_toArray, List.set_cons_zero, List.set_cons_succ]
              refine sch_nil ?_
              go_wp2
              go_ret2
              exact NextPost.why HNE.out HW.out (by decide) (by repeat (first | with_reducible exact Within.refl _ | with_reducible assumption | with_reducible refine Within.alloc ?_ _ | with_reducible refine Within.drew ?_ | with_reducible refine Within.drewN ?_ _ | with_reducible refine Within.setCell ?_ (by first | (simp; done) | (simp; omega)) _ | with_reducible refine Within.trans ?_ (by assumption)))
            · have HF : Hid (¬ (left.getD 0 0 < 1 ∨ 3 < left.getD 0 0 ∨ at4 left 1 ≠ rs.length ∨ 1048576 < at4 left 5 ∨ 1048576 ≤ rs.length)) := Lib.hid (by rw [HX.out, HQ.out, HSZ.out, HN.out]; omega)
              have u1 : decide ((x : Int) < 1) = false := decide_eq_false (by omega)
              have u2 : decide ((x : Int) > 3) = false := decide_eq_false (by omega)
              have u3 : ((q : Int) != (n : Int)) = false := by rw [bne_eq_false_iff_eq]; omega
              have u4 : decide ((sz : Int) > 1048576) = false := decide_eq_false (by omega)
              have u5 : decide ((n : Int) ≥ 1048576) = false := decide_eq_false (by omega)
              go_wp2_with fail
              refine wp_region_schG (fun W => W.cell? ⟨rb, 0, none⟩ = some (.slice (some ad) (a + (m + 13)) (a + C)) ∧ W.cell? ⟨rb, 1, none⟩ = some (.int .i64 (a : Int)) ∧ W.cell? ⟨rb, 2, none⟩ = some (.int .u32 (k : Int)) ∧ W.cell? ⟨rb, 3, none⟩ = some (.slice Al n cl) ∧ rb < W.heap.size ∧ SlAt W (some la) (u8v left) ∧ Within w W) 29 (.firm 0 (.firm 1 (.firm 2 (.firm 3 (.firm 4 (.firm 5 (.firm 6 (.firm 7 (.firm 8 (.firm 11 (.firm 12 (.firm 13 (.firm 14 (.firm 15 (.one 9 (.firm 10 (.firm 16 (.firm 17 (.firm 18 (.firm 19 (.firm 20 (.firm 21 (.firm 22 (.firm 23 (.firm 24 (.firm 25 (.firm 26 (.firm 27 (.firm 28 (.one 29 .nil)))))))))))))))))))))))))))))) (by kernel_rfl) (by kernel_rfl) ⟨p0, p1, p2, p3, hrb, HLS.out.of HWN.out, HWN.out⟩ ?_
              rintro w0 ⟨p0, p1, p2, p3, hrb, hls, hwr⟩
              try simp only [Act.put, List.setIfInBounds_toArray, List.set_cons_zero, List.set_cons_succ]
              iterate 3
                apply sch_firm rfl rfl (by repeat (first | with_reducible exact Within.refl _ | with_reducible assumption | with_reducible refine Within.alloc ?_ _ | with_reducible refine Within.drew ?_ | with_reducible refine Within.drewN ?_ _ | with_reducible refine Within.setCell ?_ (by first | (simp; done) | (simp; omega)) _ | with_reducible refine Within.trans ?_ (by assumption)))
                · intro wq hq
                  have hcq := hq.cells
                  clear hq
                  go_simp
                  rfl
                try simp only [Act.put, List.setIfInBounds_toArray, List.set_cons_zero, List.set_cons_succ]
              iterate 2
                apply sch_want rfl (by first | rfl | decide | (simp [Region.wanted, yielded]; done)) (by repeat (first | with_reducible exact Within.refl _ | with_reducible assumption | with_reducible refine Within.alloc ?_ _ | with_reducible refine Within.drew ?_ | with_reducible refine Within.drewN ?_ _ | with_reducible refine Within.setCell ?_ (by first | (simp; done) | (simp; omega)) _ | with_reducible refine Within.trans ?_ (by assumption)))
                · intro wq hq
                  have hcq := hq.cells
                  clear hq
                  go_simp
                  rfl
                try simp only [Act.put, List.setIfInBounds_toArray, List.set_cons_zero, List.set_cons_succ]
              iterate 2
                apply sch_firm rfl rfl (by repeat (first | with_reducible exact Within.refl _ | with_reducible assumption | with_reducible refine Within.alloc ?_ _ | with_reducible refine Within.drew ?_ | with_reducible refine Within.drewN ?_ _ | with_reducible refine Within.setCell ?_ (by first | (simp; done) | (simp; omega)) _ | with_reducible refine Within.trans ?_ (by assumption)))
                · intro wq hq
                  have hcq := hq.cells
                  clear hq
                  go_simp
                  rfl
                try simp only [Act.put, List.setIfInBounds_toArray, List.set_cons_zero, List.set_cons_succ]
              iterate 7
                apply sch_want rfl (by first | rfl | decide | (simp [Region.wanted, yielded]; done)) (by repeat (first | with_reducible exact Within.refl _ | with_reducible assumption | with_reducible refine Within.alloc ?_ _ | with_reducible refine Within.drew ?_ | with_reducible refine Within.drewN ?_ _ | with_reducible refine Within.setCell ?_ (by first | (simp; done) | (simp; omega)) _ | with_reducible refine Within.trans ?_ (by assumption)))
                · intro wq hq
                  have hcq := hq.cells
                  clear hq
                  go_simp
                  rfl
                try simp only [Act.put, List.setIfInBounds_toArray, List.set_cons_zero, List.set_cons_succ]
              refine sch_one_want rfl (by first | rfl | decide | (simp [Region.wanted, yielded]; done)) (fun K hK => ?_)
              go_simp
              refine (NB1.out _ (by exact hls.of (by repeat (first | with_reducible exact Within.refl _ | with_reducible assumption | with_reducible refine Within.alloc ?_ _ | with_reducible refine Within.drew ?_ | with_reducible refine Within.drewN ?_ _ | with_reducible refine Within.setCell ?_ (by first | (simp; done) | (simp; omega)) _ | with_reducible refine Within.trans ?_ (by assumption))))).mono ?_; rintro e4 w4 ⟨rfl, h4⟩
              refine hK _ _ (fun _ => (by repeat (first | with_reducible exact Within.refl _ | with_reducible assumption | with_reducible refine Within.alloc ?_ _ | with_reducible refine Within.drew ?_ | with_reducible refine Within.drewN ?_ _ | with_reducible refine Within.setCell ?_ (by first | (simp; done) | (simp; omega)) _ | with_reducible refine Within.trans ?_ (by assumption)))) ?_
              clear hK K
              try simp only [Act.put, List.setIfInBounds_toArray, List.set_cons_zero, List.set_cons_succ]
              iterate 2
                apply sch_want rfl (by first | rfl | decide | (simp [Region.wanted, yielded]; done)) (by repeat (first | with_reducible exact Within.refl _ | with_reducible assumption | with_reducible refine Within.alloc ?_ _ | with_reducible refine Within.drew ?_ | with_reducible refine Within.drewN ?_ _ | with_reducible refine Within.setCell ?_ (by first | (simp; done) | (simp; omega)) _ | with_reducible refine Within.trans ?_ (by assumption)))
                · intro wq hq
                  have hcq := hq.cells
                  clear hq
                  go_simp
                  rfl
                try simp only [Act.put, List.setIfInBounds_toArray, List.set_cons_zero, List.set_cons_succ]
              iterate 2
                apply sch_firm rfl rfl (by repeat (first | with_reducible exact Within.refl _ | with_reducible assumption | with_reducible refine Within.alloc ?_ _ | with_reducible refine Within.drew ?_ | with_reducible refine Within.drewN ?_ _ | with_reducible refine Within.setCell ?_ (by first | (simp; done) | (simp; omega)) _ | with_reducible refine Within.trans ?_ (by assumption)))
                · intro wq hq
                  have hcq := hq.cells
                  clear hq
                  go_simp
                  rfl
                try simp only [Act.put, List.setIfInBounds_toArray, List.set_cons_zero, List.set_cons_succ]
              iterate 2
                apply sch_want rfl (by first | rfl | decide | (simp [Region.wanted, yielded]; done)) (by repeat (first | with_reducible exact Within.refl _ | with_reducible assumption | with_reducible refine Within.alloc ?_ _ | with_reducible refine Within.drew ?_ | with_reducible refine Within.drewN ?_ _ | with_reducible refine Within.setCell ?_ (by first | (simp; done) | (simp; omega)) _ | with_reducible refine Within.trans ?_ (by assumption)))
                · intro wq hq
                  have hcq := hq.cells
                  clear hq
                  go_simp
                  rfl
                try simp only [Act.put, List.setIfInBounds_toArray, List.set_cons_zero, List.set_cons_succ]
              iterate 2
                apply sch_firm rfl rfl (by repeat (first | with_reducible exact Within.refl _ | with_reducible assumption | with_reducible refine Within.alloc ?_ _ | with_reducible refine Within.drew ?_ | with_reducible refine Within.drewN ?_ _ | with_reducible refine Within.setCell ?_ (by first | (simp; done) | (simp; omega)) _ | with_reducible refine Within.trans ?_ (by assumption)))
                · intro wq hq
                  have hcq := hq.cells
                  clear hq
                  go_simp
                  rfl
                try simp only [Act.put, List.setIfInBounds_toArray, List.set_cons_zero, List.set_cons_succ]
              iterate 6
                apply sch_want rfl (by first | rfl | decide | (simp [Region.wanted, yielded]; done)) (by repeat (first | with_reducible exact Within.refl _ | with_reducible assumption | with_reducible refine Within.alloc ?_ _ | with_reducible refine Within.drew ?_ | with_reducible refine Within.drewN ?_ _ | with_reducible refine Within.setCell ?_ (by first | (simp; done) | (simp; omega)) _ | with_reducible refine Within.trans ?_ (by assumption)))
                · intro wq hq
                  have hcq := hq.cells
                  clear hq
                  go_simp
                  rfl
                try simp only [Act.put, List.setIfInBounds_toArray, List.set_cons_zero, List.set_cons_succ]
              refine sch_one rfl rfl (fun K hK => ?_)
              go_simp
              refine hK _ _ (fun h => absurd h (by decide)) ?_
              clear hK K
              try simp only [Act.put, List.setIfInBounds_toArray, List.set_cons_zero, List.set_cons_succ]
              refine sch_nil ?_
              have hxx : Within w0 w4 := (by repeat (first | with_reducible exact Within.refl _ | with_reducible assumption | with_reducible refine Within.alloc ?_ _ | with_reducible refine Within.drew ?_ | with_reducible refine Within.drewN ?_ _ | with_reducible refine Within.setCell ?_ (by first | (simp; done) | (simp; omega)) _ | with_reducible refine Within.trans ?_ (by assumption)))
              have p0 := (hxx.cells _ _ hrb).trans p0
              have p1 := (hxx.cells _ _ hrb).trans p1
              have p2 := (hxx.cells _ _ hrb).trans p2
              have p3 := (hxx.cells _ _ hrb).trans p3
              have hrb := Nat.lt_of_lt_of_le hrb hxx.size
              have HWN : Hid (Within w w4) := Lib.hid (hwr.trans hxx)
              clear hxx hwr
              clear h4 hls
              obtain ⟨E, hE⟩ : ∃ E, 13 + sz = E := ⟨_, rfl⟩
              have HEV : Hid (endV left = E) := Lib.hid (by unfold endV; rw [HSZ.out]; exact hE)
              have csz : IntKind.i64.wrap (sz : Int) = (sz : Int) := by rw [IntKind.wrap_i64]; omega
              have cE : (13 : Int) + (sz : Int) = (E : Int) := by omega
              have hEl : E ≤ 1048589 := by omega
              have hE13 : 13 ≤ E := by omega
              have HEE := Lib.hid hE; clear hE
              by_cases hsh : m + 13 < E + 4
              · have v0 : decide ((m : Int) + 13 < (E : Int) + 4) = true := decide_eq_true (by omega)
                have HW := Lib.hid (why_short (b := left) (n := rs.length) (k := k) H13.out HSE.out HF.out (by rw [HLR.out, HEV.out]; exact hsh))
                have hwr := HWN.out
                go_wp2
                go_ret2
                exact NextPost.why HNE.out HW.out (by decide) (by repeat (first | with_reducible exact Within.refl _ | with_reducible assumption | with_reducible refine Within.alloc ?_ _ | with_reducible refine Within.drew ?_ | with_reducible refine Within.drewN ?_ _ | with_reducible refine Within.setCell ?_ (by first | (simp; done) | (simp; omega)) _ | with_reducible refine Within.trans ?_ (by assumption)))
              · have v0 : decide ((m : Int) + 13 < (E : Int) + 4) = false := decide_eq_false (by omega)
                have HSH : Hid (¬ left.length < endV left + 4) := Lib.hid (by rw [HLR.out, HEV.out]; exact hsh)
                obtain ⟨nx, hnx⟩ : ∃ s, linkV k (left.take E) = s := ⟨_, rfl⟩
                have hnxl : nx < 4294967296 := by rw [← hnx]; exact linkV_lt (HLB.out.take E)
                have SBE := Lib.hid (fun W => SB.out W E (by omega) (by omega))
                rw [hnx] at SBE
                have HNX := Lib.hid hnx; clear hnx
                have t1 : (0 : Int) ≤ (E : Int) := by omega
                have t2 : (E : Int) ≤ (C : Int) := by omega
                have t3 : E ≤ C := by omega
                go_wp2_with fail
                refine wp_region_schG (fun W => W.cell? ⟨rb, 0, none⟩ = some (.slice (some ad) (a + (m + 13)) (a + C)) ∧ W.cell? ⟨rb, 1, none⟩ = some (.int .i64 (a : Int)) ∧ W.cell? ⟨rb, 2, none⟩ = some (.int .u32 (k : Int)) ∧ W.cell? ⟨rb, 3, none⟩ = some (.slice Al n cl) ∧ rb < W.heap.size ∧ SlAt W (some la) (u8v left) ∧ Within w W) 8 (.firm 0 (.firm 1 (.firm 2 (.firm 3 (.firm 4 (.firm 5 (.firm 6 (.one 7 (.one 8 .nil))))))))) (by kernel_rfl) (by kernel_rfl) ⟨p0, p1, p2, p3, hrb, HLS.out.of HWN.out, HWN.out⟩ ?_
                rintro w0 ⟨p0, p1, p2, p3, hrb, hls, hwr⟩
                try simp only [Act.put, List.setIfInBounds_toArray, List.set_cons_zero, List.set_cons_succ]
                iterate 7
                  apply sch_firm rfl rfl (by repeat (first | with_reducible exact Within.refl _ | with_reducible assumption | with_reducible refine Within.alloc ?_ _ | with_reducible refine Within.drew ?_ | with_reducible refine Within.drewN ?_ _ | with_reducible refine Within.setCell ?_ (by first | (simp; done) | (simp; omega)) _ | with_reducible refine Within.trans ?_ (by assumption)))
                  · intro wq hq
                    have hcq := hq.cells
                    clear hq
                    go_simp
                    rfl
                  try simp only [Act.put, List.setIfInBounds_toArray, List.set_cons_zero, List.set_cons_succ]
                refine sch_one rfl rfl (fun K hK => ?_)
                go_simp
                refine (SBE.out _ (by exact hls.of (by repeat (first | with_reducible exact Within.refl _ | with_reducible assumption | with_reducible refine Within.alloc ?_ _ | with_reducible refine Within.drew ?_ | with_reducible refine Within.drewN ?_ _ | with_reducible refine Within.setCell ?_ (by first | (simp; done) | (simp; omega)) _ | with_reducible refine Within.trans ?_ (by assumption))))).mono ?_; rintro e5 w5 ⟨rfl, h5⟩
                refine hK _ _ (fun _ => (by repeat (first | with_reducible exact Within.refl _ | with_reducible assumption | with_reducible refine Within.alloc ?_ _ | with_reducible refine Within.drew ?_ | with_reducible refine Within.drewN ?_ _ | with_reducible refine Within.setCell ?_ (by first | (simp; done) | (simp; omega)) _ | with_reducible refine Within.trans ?_ (by assumption)))) ?_
                clear hK K
                try simp only [Act.put, List.setIfInBounds_toArray, List.set_cons_zero, List.set_cons_succ]
                refine sch_one rfl rfl (fun K hK => ?_)
                go_simp
                refine hK _ _ (fun h => absurd h (by decide)) ?_
                clear hK K
                try simp only [Act.put, List.setIfInBounds_toArray, List.set_cons_zero, List.set_cons_succ]
                refine sch_nil ?_
                have hxx : Within w0 w5 := (by repeat (first | with_reducible exact Within.refl _ | with_reducible assumption | with_reducible refine Within.alloc ?_ _ | with_reducible refine Within.drew ?_ | with_reducible refine Within.drewN ?_ _ | with_reducible refine Within.setCell ?_ (by first | (simp; done) | (simp; omega)) _ | with_reducible refine Within.trans ?_ (by assumption)))
                have p0 := (hxx.cells _ _ hrb).trans p0
                have p1 := (hxx.cells _ _ hrb).trans p1
                have p2 := (hxx.cells _ _ hrb).trans p2
                have p3 := (hxx.cells _ _ hrb).trans p3
                have hrb := Nat.lt_of_lt_of_le hrb hxx.size
                have HWN : Hid (Within w w5) := Lib.hid (hwr.trans hxx)
                clear hxx hwr
                clear h5 hls
                obtain ⟨s2, hs2⟩ : ∃ s, at4 left E = s := ⟨_, rfl⟩
                have HS2 := Lib.hid hs2; clear hs2
                have y1 : ¬ C = E := by omega
                have y2 : (E : Int) ≤ (m : Int) + 13 := by omega
                have y3 : (m : Int) + 13 ≤ (C : Int) := by omega
                have y4 : E ≤ m + 13 := by omega
                by_cases hlk : s2 = nx
                · have v1 : ((s2 : Int) != (nx : Int)) = false := by rw [bne_eq_false_iff_eq]; omega
                  have HLE : Hid (¬ at4 left (endV left) ≠ linkV k (left.take (endV left))) := Lib.hid (by rw [HEV.out, HS2.out, HNX.out]; exact fun h => h hlk)
                  clear hlk
                  go_wp2_with fail
                  refine (NB.out _ E _ _ (by omega) (by omega) (by omega) (HLS.out.of HWN.out)).mono ?_; rintro e6 w6 ⟨hee, h6⟩
                  rw [HS2.out] at hee
                  subst hee
                  have hwr := HWN.out
                  have hxx : Within w5 w6 := (by repeat (first | with_reducible exact Within.refl _ | with_reducible assumption | with_reducible refine Within.alloc ?_ _ | with_reducible refine Within.drew ?_ | with_reducible refine Within.drewN ?_ _ | with_reducible refine Within.setCell ?_ (by first | (simp; done) | (simp; omega)) _ | with_reducible refine Within.trans ?_ (by assumption)))
                  have p0 := (hxx.cells _ _ hrb).trans p0
                  have p1 := (hxx.cells _ _ hrb).trans p1
                  have p2 := (hxx.cells _ _ hrb).trans p2
                  have p3 := (hxx.cells _ _ hrb).trans p3
                  have hrb := Nat.lt_of_lt_of_le hrb hxx.size
                  have HWN : Hid (Within w w6) := Lib.hid (hwr.trans hxx)
                  clear hxx hwr
                  clear h6
                  obtain ⟨dd, hdd⟩ : ∃ dd, (left.drop 13).take sz = dd := ⟨_, rfl⟩
                  have hdl : dd.length = sz := by rw [← hdd, List.length_take, List.length_drop, HLR.out]; omega
                  have hdb : Bytes dd := by rw [← hdd]; exact (HLB.out.drop 13).take sz
                  have hds : SlAt w6 (some (la.add 13)) (u8v dd) := by have := (left_at (HLS.out.of HWN.out) 13).take sz; rw [← hdd]; unfold u8v at this ⊢; rwa [← List.map_take] at this
                  rw [add_plain' la (by decide)] at hds
                  have CLN := clone_any (some ⟨la.block, la.off + 13, none⟩) (C - 13) dd (by omega) w6 hds
                  rw [hdl] at CLN
                  have HCLN := Lib.hid CLN; have HDB := Lib.hid hdb; have HDL := Lib.hid hdl; have HDD := Lib.hid hdd; clear CLN hdb hds hdl hdd
                  have y5 : (13 : Int) ≤ (E : Int) := by omega
                  have y6 : E - 13 = sz := by omega
                  have y7 : ¬ C = 13 := by omega
                  have y8 : (E : Int) ≤ (C : Int) := by omega
                  have y9 : 13 ≤ E := by omega
                  have y10 : E ≤ C := by omega
                  go_wp2_with fail
                  refine HCLN.out.mono ?_; rintro e7 w7 ⟨v7, rfl, hO7, h7⟩
                  obtain ⟨A7, c7, rfl, hc7, hs7, hD7⟩ := hO7.form
                  have JC := jcheck_any (x : Int) A7 c7 dd HDB.out hc7 (by rw [HDL.out]; omega) (w7.alloc (.cells #[.int .i64 (x : Int), .slice A7 dd.length c7] 30)) (HT.out.of ((HWN.out.trans h7).alloc _)) (hs7.of ((Within.refl w7).alloc _))
                  rw [HDL.out] at JC hO7 hc7 ⊢
                  obtain ⟨ck, hck⟩ : ∃ ck, checkR pf (x : Int) dd = ck := ⟨_, rfl⟩
                  rw [hck] at JC
                  have HJC := Lib.hid JC; have HO7 := Lib.hid hO7; have HCK := Lib.hid hck; have HD7 := Lib.hid hD7; clear JC hO7 hck hs7 hD7
                  go_wp2_with fail
                  refine HJC.out.mono ?_; rintro e8 w8 ⟨rfl, h8⟩
                  have hX78 : Within w7 w8 := Within.trans ((Within.refl w7).alloc _) h8
                  have z0 : w8.cell? ⟨w7.heap.size, 0, none⟩ = some (.int .i64 (x : Int)) := (h8.cells _ _ (by simp)).trans (by simp)
                  have z1 : w8.cell? ⟨w7.heap.size, 1, none⟩ = some (.slice A7 sz c7) := (h8.cells _ _ (by simp)).trans (by simp)
                  have hzb : w7.heap.size < w8.heap.size := World.block_lt_of_cell? _ _ z0
                  by_cases hc0 : ck = 0
                  · subst hc0
                    have HW0 : Hid (whyV pf left rs.length k = 0) := Lib.hid (by rw [why_rec H13.out HSE.out HF.out HSH.out HLE.out, HX.out, HSZ.out, HDD.out, HCK.out, if_neg (by decide)])
                    have HPF8 : Hid (∀ o, w8.frozen? ⟨rb, o, none⟩ = false) := Lib.hid (fun o => ((HWN.out.trans (h7.trans hX78)).frozens rb o HRB.out).trans (HPF.out o))
                    have hlt : ∀ j, (Value.slice Al n cl).ownBlock = some j → B ≤ j ∧ j < w.heap.size := HRL.out.own_lt
                    have hX8 := HWN.out.trans (h7.trans hX78)
                    have nT1 : ¬ ((Value.slice Al n cl).ownBlock = some rb) := fun h => by have := (hlt rb h).1; omega
                    have nT2 : ¬ ((Value.slice Al n cl).ownBlock = some w7.heap.size) := fun h => by have := (hlt _ h).2; have := HWN.out.size; have := h7.size; omega
                    have h6B : B ≤ w6.heap.size := Nat.le_trans hB HWN.out.size
                    have HLT := Lib.hid hlt
                    have HO8 := Lib.hid ((HO7.out.less h6B).of hX78)
                    have HRL8 := Lib.hid (HRL.out.of hX8)
                    have HX8 := Lib.hid hX8
                    have hne7 : (Value.slice A7 sz c7).ownBlock = none ∨ (Value.slice A7 sz c7).ownBlock ≠ (Value.slice Al n cl).ownBlock := by
                      cases ho : (Value.slice A7 sz c7).ownBlock with
                      | none => exact .inl rfl
                      | some j => exact .inr (fun e => by have h1 := (HO7.out.lt j ho).1; have h2 := (hlt j e.symm).2; have := HWN.out.size; omega)
                    have hwr := HWN.out
                    have HNE7 := Lib.hid hne7; clear hne7 hlt hX8
                    have hxx : Within w6 w8 := (by repeat (first | with_reducible exact Within.refl _ | with_reducible assumption | with_reducible refine Within.alloc ?_ _ | with_reducible refine Within.drew ?_ | with_reducible refine Within.drewN ?_ _ | with_reducible refine Within.setCell ?_ (by first | (simp; done) | (simp; omega)) _ | with_reducible refine Within.trans ?_ (by assumption)))
                    have p0 := (hxx.cells _ _ hrb).trans p0
                    have p1 := (hxx.cells _ _ hrb).trans p1
                    have p2 := (hxx.cells _ _ hrb).trans p2
                    have p3 := (hxx.cells _ _ hrb).trans p3
                    have hrb := Nat.lt_of_lt_of_le hrb hxx.size
                    have HWN : Hid (Within w w8) := Lib.hid (hwr.trans hxx)
                    clear hxx hwr
                    clear h8 h7 hX78
                    have nT1h := Lib.hid nT1; have nT2h := Lib.hid nT2; clear nT1 nT2
                    go_wp2_with fail
                    refine wp_region_schT (fun j => (Value.slice Al n cl).ownBlock = some j) (fun W => W.cell? ⟨rb, 0, none⟩ = some (.slice (some ad) (a + (m + 13)) (a + C)) ∧ W.cell? ⟨rb, 1, none⟩ = some (.int .i64 (a : Int)) ∧ W.cell? ⟨rb, 2, none⟩ = some (.int .u32 (k : Int)) ∧ W.cell? ⟨rb, 3, none⟩ = some (.slice Al n cl) ∧ rb < W.heap.size ∧ W.cell? ⟨w7.heap.size, 0, none⟩ = some (.int .i64 (x : Int)) ∧ W.cell? ⟨w7.heap.size, 1, none⟩ = some (.slice A7 sz c7) ∧ w7.heap.size < W.heap.size ∧ W = w8) 10 (.firm 0 (.firm 1 (.firm 2 (.firm 3 (.firm 4 (.firm 5 (.one 6 (.one 7 (.firm 8 (.firm 9 (.one 10 .nil))))))))))) (by kernel_rfl) (by kernel_rfl) ⟨p0, p1, p2, p3, hrb, z0, z1, hzb, rfl⟩ ?_
                    rintro w0 ⟨p0, p1, p2, p3, hrb, z0, z1, hzb, rfl⟩
                    try simp only [Act.put, List.setIfInBounds_toArray, List.set_cons_zero, List.set_cons_succ]
                    iterate 6
                      apply sch_firm rfl rfl (by repeat (first | with_reducible exact ButS.refl _ _ | with_reducible assumption | with_reducible refine ButS.drew ?_ | with_reducible refine ButS.alloc ?_ _ | with_reducible refine ButS.within ?_ (by assumption)))
                      · intro wq hq
                        have q0 := (hq.cells rb 0 hrb nT1h.out).trans p0
                        have q1 := (hq.cells rb 1 hrb nT1h.out).trans p1
                        have q2 := (hq.cells rb 2 hrb nT1h.out).trans p2
                        have q3 := (hq.cells rb 3 hrb nT1h.out).trans p3
                        have q4 := (hq.cells _ 0 hzb nT2h.out).trans z0
                        have q5 := (hq.cells _ 1 hzb nT2h.out).trans z1
                        have q6 := Nat.lt_of_lt_of_le hrb hq.size
                        have q7 := Nat.lt_of_lt_of_le hzb hq.size
                        clear hq
                        go_simp
                        rfl
                      try simp only [Act.put, List.setIfInBounds_toArray, List.set_cons_zero, List.set_cons_succ]
                    refine sch_one rfl rfl (fun K hK => ?_)
                    go_simp
                    refine hK _ _ (fun _ => (by repeat (first | with_reducible exact ButS.refl _ _ | with_reducible assumption | with_reducible refine ButS.drew ?_ | with_reducible refine ButS.alloc ?_ _ | with_reducible refine ButS.within ?_ (by assumption)))) ?_
                    clear hK K
                    try simp only [Act.put, List.setIfInBounds_toArray, List.set_cons_zero, List.set_cons_succ]
                    refine sch_one rfl rfl (fun K hK => ?_)
                    obtain ⟨v9, w9, hrun9, hR9, hg9, hb9, ho9⟩ := run_app_rec w0.drew B (.slice Al n cl) (rs.map Rec.i) ((x : Int), dd) (.slice A7 sz c7) (HRL8.out.of ((Within.refl w0).drew)) (HO8.out.of ((Within.refl w0).drew)) HDB.out HNE7.out (by rw [List.length_map, HN.out]; omega) (by exact Nat.le_trans hB HX8.out.size)
                    obtain ⟨A9, c9, rfl, hx9, hy9, hz9, hu9⟩ := hR9.at
                    clear hx9 hy9 hz9 hu9
                    obtain ⟨n9, hn9⟩ : ∃ n9, (rs.map Rec.i ++ [((x : Int), dd)]).length = n9 := ⟨_, rfl⟩
                    rw [hn9] at hrun9 hR9
                    clear hn9
                    have hS9 : ButS (fun j => (Value.slice Al n cl).ownBlock = some j) w0 w9 := ((ButS.refl _ w0).drew).grown hg9 (fun j hj => .inl hj)
                    have hC9 : NxC w9 rb (.slice (some ad) (a + (m + 13)) (a + C)) a k (.slice Al n cl) := NxC.grown (w := w0.drew) ⟨p0, p1, p2, p3, HPF8.out⟩ hg9 nT1h.out
                    have RUN9 := Lib.hid hrun9; have HR9 := Lib.hid hR9; have HC9 := Lib.hid hC9; clear hrun9 hR9 hg9 hb9 ho9 hC9
                    refine op_append_run (.tmp 108) (.tmp 110) 52 rfl _ _ rfl rfl RUN9.out ?_
                    refine hK _ _ (fun _ => (by repeat (first | with_reducible exact ButS.refl _ _ | with_reducible assumption | with_reducible refine ButS.drew ?_ | with_reducible refine ButS.alloc ?_ _ | with_reducible refine ButS.within ?_ (by assumption)))) ?_
                    clear hK K
                    try simp only [Act.put, List.setIfInBounds_toArray, List.set_cons_zero, List.set_cons_succ]
                    iterate 2
                      apply sch_firm rfl rfl (by repeat (first | with_reducible exact ButS.refl _ _ | with_reducible assumption | with_reducible refine ButS.drew ?_ | with_reducible refine ButS.alloc ?_ _ | with_reducible refine ButS.within ?_ (by assumption)))
                      · intro wq hq
                        have q0 := (hq.cells rb 0 hrb nT1h.out).trans p0
                        have q1 := (hq.cells rb 1 hrb nT1h.out).trans p1
                        have q2 := (hq.cells rb 2 hrb nT1h.out).trans p2
                        have q3 := (hq.cells rb 3 hrb nT1h.out).trans p3
                        have q4 := (hq.cells _ 0 hzb nT2h.out).trans z0
                        have q5 := (hq.cells _ 1 hzb nT2h.out).trans z1
                        have q6 := Nat.lt_of_lt_of_le hrb hq.size
                        have q7 := Nat.lt_of_lt_of_le hzb hq.size
                        clear hq
                        go_simp
                        rfl
                      try simp only [Act.put, List.setIfInBounds_toArray, List.set_cons_zero, List.set_cons_succ]
                    refine sch_one rfl rfl (fun K hK => ?_)
                    obtain ⟨r0, r1, r2, r3, rff⟩ := HC9.out
                    have hrb9 := HC9.out.lt
                    go_simp
                    refine hK _ _ (fun h => absurd h (by decide)) ?_
                    clear hK K
                    try simp only [Act.put, List.setIfInBounds_toArray, List.set_cons_zero, List.set_cons_succ]
                    refine sch_nil ?_
                    go_wp2
                    go_ret2
                    have hN := ((HC9.out.list (.slice A9 n9 c9)).place (a + (E + 4))).link nx
                    have hK : But rb w9 (((w9.setCell ⟨rb, 3, none⟩ (.slice A9 n9 c9)).setCell ⟨rb, 1, none⟩ (.int .i64 ((a + (E + 4) : Nat) : Int))).setCell ⟨rb, 2, none⟩ (.int .u32 (nx : Int))) := (((But.refl rb w9).set (.inl rfl) _).set (.inl rfl) _).set (.inl rfl) _
                    have hR := HR9.out.but hK hrB
                    have hS : ButS (fun j => j = rb ∨ B ≤ j) w (((w9.setCell ⟨rb, 3, none⟩ (.slice A9 n9 c9)).setCell ⟨rb, 1, none⟩ (.int .i64 ((a + (E + 4) : Nat) : Int))).setCell ⟨rb, 2, none⟩ (.int .u32 (nx : Int))) := (((((ButS.in_ HX8.out).trans hS9 (fun j _ hj => .inr (HLT.out j hj).1)).set (.inl (.inl rfl)) _).set (.inl (.inl rfl)) _).set (.inl (.inl rfl)) _)
                    rw [show ((a + (E + 4) : Nat) : Int) = (a : Int) + ((E : Int) + 4) by omega] at hN hR hS
                    have hI : (rs ++ [recV left]).map Rec.i = rs.map Rec.i ++ [((x : Int), dd)] := by
                      rw [List.map_append]; congr 1; show [(((left.getD 0 0 : Nat) : Int), (left.drop 13).take (at4 left 5))] = _; rw [HX.out, HSZ.out, HDD.out]
                    exact NextPost.rec_ HW0.out (by rw [HEV.out, HNX.out]; exact hN) (by rw [hI]; exact hR) hS
                  · have hne0 : (ck != 0) = true := bne_iff_ne.2 hc0
                    have HW := Lib.hid (show whyV pf left rs.length k = 3 by rw [why_rec H13.out HSE.out HF.out HSH.out HLE.out, HX.out, HSZ.out, HDD.out, HCK.out, if_pos hc0])
                    have hwr := HWN.out
                    go_wp2
                    go_ret2
                    exact NextPost.why HNE.out HW.out (by decide) (by repeat (first | with_reducible exact Within.refl _ | with_reducible assumption | with_reducible refine Within.alloc ?_ _ | with_reducible refine Within.drew ?_ | with_reducible refine Within.drewN ?_ _ | with_reducible refine Within.setCell ?_ (by first | (simp; done) | (simp; omega)) _ | with_reducible refine Within.trans ?_ (by assumption)))
                · have v1 : ((s2 : Int) != (nx : Int)) = true := bne_iff_ne.2 (by omega)
                  have HW := Lib.hid (why_link (b := left) (n := rs.length) (k := k) H13.out HSE.out HF.out HSH.out (by rw [HEV.out, HS2.out, HNX.out]; exact hlk))
                  clear hlk
                  go_wp2_with fail
                  refine (NB.out _ E _ _ (by omega) (by omega) (by omega) (HLS.out.of HWN.out)).mono ?_; rintro e6 w6 ⟨hee, h6⟩
                  rw [HS2.out] at hee
                  subst hee
                  have hwr := HWN.out
                  go_wp2
                  go_ret2
                  exact NextPost.why HNE.out HW.out (by decide) (by repeat (first | with_reducible exact Within.refl _ | with_reducible assumption | with_reducible refine Within.alloc ?_ _ | with_reducible refine Within.drew ?_ | with_reducible refine Within.drewN ?_ _ | with_reducible refine Within.setCell ?_ (by first | (simp; done) | (simp; omega)) _ | with_reducible refine Within.trans ?_ (by assumption)))
        · have u1 : decide ((x : Int) < 1) = false := decide_eq_false (by omega)
          have u2 : decide ((x : Int) > 3) = false := decide_eq_false (by omega)
          have u3 : ((q : Int) != (n : Int)) = true := bne_iff_ne.2 (by omega)
          have HW := Lib.hid (why_form (b := left) (n := rs.length) (k := k) H13.out HSE.out (by rw [HX.out, HQ.out, HSZ.out, HN.out]; exact .inr (.inr (.inl x3))))
          go_wp2_with fail
          refine wp_region_schG (fun W => W.cell? ⟨rb, 0, none⟩ = some (.slice (some ad) (a + (m + 13)) (a + C)) ∧ W.cell? ⟨rb, 1, none⟩ = some (.int .i64 (a : Int)) ∧ W.cell? ⟨rb, 2, none⟩ = some (.int .u32 (k : Int)) ∧ W.cell? ⟨rb, 3, none⟩ = some (.slice Al n cl) ∧ rb < W.heap.size ∧ SlAt W (some la) (u8v left) ∧ Within w W) 29 (.firm 0 (.firm 1 (.firm 2 (.firm 3 (.firm 4 (.firm 5 (.firm 6 (.firm 7 (.firm 8 (.firm 11 (.firm 12 (.firm 13 (.firm 14 (.firm 15 (.one 9 (.firm 10 (.firm 16 (.firm 17 (.firm 18 (.firm 19 (.firm 20 (.firm 21 (.firm 22 (.firm 23 (.firm 24 (.firm 25 (.firm 26 (.firm 27 (.firm 28 (.one 29 .nil)))))))))))))))))))))))))))))) (by kernel_rfl) (by kernel_rfl) ⟨p0, p1, p2, p3, hrb, HLS.out.of HWN.out, HWN.out⟩ ?_
          rintro w0 ⟨p0, p1, p2, p3, hrb, hls, hwr⟩
          try simp only [Act.put, List.setIfInBounds_toArray, List.set_cons_zero, List.set_cons_succ]
          iterate 3
            apply sch_firm rfl rfl (by repeat (first | with_reducible exact Within.refl _ | with_reducible assumption | with_reducible refine Within.alloc ?_ _ | with_reducible refine Within.drew ?_ | with_reducible refine Within.drewN ?_ _ | with_reducible refine Within.setCell ?_ (by first | (simp; done) | (simp; omega)) _ | with_reducible refine Within.trans ?_ (by assumption)))
            · intro wq hq
              have hcq := hq.cells
              clear hq
              go_simp
              rfl
            try simp only [Act.put, List.setIfInBounds_toArray, List.set_cons_zero, List.set_cons_succ]
          iterate 2
            apply sch_want rfl (by first | rfl | decide | (simp [Region.wanted, yielded]; done)) (by repeat (first | with_reducible exact Within.refl _ | with_reducible assumption | with_reducible refine Within.alloc ?_ _ | with_reducible refine Within.drew ?_ | with_reducible refine Within.drewN ?_ _ | with_reducible refine Within.setCell ?_ (by first | (simp; done) | (simp; omega)) _ | with_reducible refine Within.trans ?_ (by assumption)))
            · intro wq hq
              have hcq := hq.cells
              clear hq
              go_simp
              rfl
            try simp only [Act.put, List.setIfInBounds_toArray, List.set_cons_zero, List.set_cons_succ]
          iterate 2
            apply sch_firm rfl rfl (by repeat (first | with_reducible exact Within.refl _ | with_reducible assumption | with_reducible refine Within.alloc ?_ _ | with_reducible refine Within.drew ?_ | with_reducible refine Within.drewN ?_ _ | with_reducible refine Within.setCell ?_ (by first | (simp; done) | (simp; omega)) _ | with_reducible refine Within.trans ?_ (by assumption)))
            · intro wq hq
              have hcq := hq.cells
              clear hq
              go_simp
              rfl
            try simp only [Act.put, List.setIfInBounds_toArray, List.set_cons_zero, List.set_cons_succ]
          iterate 7
            apply sch_want rfl (by first | rfl | decide | (simp [Region.wanted, yielded]; done)) (by repeat (first | with_reducible exact Within.refl _ | with_reducible assumption | with_reducible refine Within.alloc ?_ _ | with_reducible refine Within.drew ?_ | with_reducible refine Within.drewN ?_ _ | with_reducible refine Within.setCell ?_ (by first | (simp; done) | (simp; omega)) _ | with_reducible refine Within.trans ?_ (by assumption)))
            · intro wq hq
              have hcq := hq.cells
              clear hq
              go_simp
              rfl
            try simp only [Act.put, List.setIfInBounds_toArray, List.set_cons_zero, List.set_cons_succ]
          refine sch_one_want rfl (by first | rfl | decide | (simp [Region.wanted, yielded]; done)) (fun K hK => ?_)
          go_simp
          refine (NB1.out _ (by exact hls.of (by repeat (first | with_reducible exact Within.refl _ | with_reducible assumption | with_reducible refine Within.alloc ?_ _ | with_reducible refine Within.drew ?_ | with_reducible refine Within.drewN ?_ _ | with_reducible refine Within.setCell ?_ (by first | (simp; done) | (simp; omega)) _ | with_reducible refine Within.trans ?_ (by assumption))))).mono ?_; rintro e4 w4 ⟨rfl, h4⟩
          refine hK _ _ (fun _ => (by repeat (first | with_reducible exact Within.refl _ | with_reducible assumption | with_reducible refine Within.alloc ?_ _ | with_reducible refine Within.drew ?_ | with_reducible refine Within.drewN ?_ _ | with_reducible refine Within.setCell ?_ (by first | (simp; done) | (simp; omega)) _ | with_reducible refine Within.trans ?_ (by assumption)))) ?_
          clear hK K
          try simp only [Act.put, List.setIfInBounds_toArray, List.set_cons_zero, List.set_cons_succ]
          iterate 2
            apply sch_want rfl (by first | rfl | decide | (simp [Region.wanted, yielded]; done)) (by repeat (first | with_reducible exact Within.refl _ | with_reducible assumption | with_reducible refine Within.alloc ?_ _ | with_reducible refine Within.drew ?_ | with_reducible refine Within.drewN ?_ _ | with_reducible refine Within.setCell ?_ (by first | (simp; done) | (simp; omega)) _ | with_reducible refine Within.trans ?_ (by assumption)))
            · intro wq hq
              have hcq := hq.cells
              clear hq
              go_simp
              rfl
            try simp only [Act.put, List.setIfInBounds_toArray, List.set_cons_zero, List.set_cons_succ]
          iterate 2
            apply sch_firm rfl rfl (by repeat (first | with_reducible exact Within.refl _ | with_reducible assumption | with_reducible refine Within.alloc ?_ _ | with_reducible refine Within.drew ?_ | with_reducible refine Within.drewN ?_ _ | with_reducible refine Within.setCell ?_ (by first | (simp; done) | (simp; omega)) _ | with_reducible refine Within.trans ?_ (by assumption)))
            · intro wq hq
              have hcq := hq.cells
              clear hq
              go_simp
              rfl
            try simp only [Act.put, List.setIfInBounds_toArray, List.set_cons_zero, List.set_cons_succ]
          iterate 2
            refine sch_skip rfl (by first | rfl | decide | (simp [Region.wanted, yielded]; done)) (by repeat (first | with_reducible exact Within.refl _ | with_reducible assumption | with_reducible refine Within.alloc ?_ _ | with_reducible refine Within.drew ?_ | with_reducible refine Within.drewN ?_ _ | with_reducible refine Within.setCell ?_ (by first | (simp; done) | (simp; omega)) _ | with_reducible refine Within.trans ?_ (by assumption))) ?_
            try simp only [Act.put, List.setIfInBounds_toArray, List.set_cons_zero, List.set_cons_succ]
          iterate 2
            apply sch_firm rfl rfl (by repeat (first | with_reducible exact Within.refl _ | with_reducible assumption | with_reducible refine Within.alloc ?_ _ | with_reducible refine Within.drew ?_ | with_reducible refine Within.drewN ?_ _ | with_reducible refine Within.setCell ?_ (by first | (simp; done) | (simp; omega)) _ | with_reducible refine Within.trans ?_ (by assumption)))
            · intro wq hq
              have hcq := hq.cells
              clear hq
              go_simp
              rfl
            try simp only [Act.put, List.setIfInBounds_toArray, List.set_cons_zero, List.set_cons_succ]
          iterate 6
            refine sch_skip rfl (by first | rfl | decide | (simp [Region.wanted, yielded]; done)) (by repeat (first | with_reducible exact Within.refl _ | with_reducible assumption | with_reducible refine Within.alloc ?_ _ | with_reducible refine Within.drew ?_ | with_reducible refine Within.drewN ?_ _ | with_reducible refine Within.setCell ?_ (by first | (simp; done) | (simp; omega)) _ | with_reducible refine Within.trans ?_ (by assumption))) ?_
            try simp only [Act.put, List.setIfInBounds_toArray, List.set_cons_zero, List.set_cons_succ]
          refine sch_one rfl rfl (fun K hK => ?_)
          go_simp
          refine hK _ _ (fun h => absurd h (by decide)) ?_
          clear hK K
          try simp only [Act.put, List.setIfInBounds_toArray, List.set_cons_zero, List.set_cons_succ]
          refine sch_nil ?_
          go_wp2
          go_ret2
          exact NextPost.why HNE.out HW.out (by decide) (by repeat (first | with_reducible exact Within.refl _ | with_reducible assumption | with_reducible refine Within.alloc ?_ _ | with_reducible refine Within.drew ?_ | with_reducible refine Within.drewN ?_ _ | with_reducible refine Within.setCell ?_ (by first | (simp; done) | (simp; omega)) _ | with_reducible refine Within.trans ?_ (by assumption)))
  · have n1 : ((s1 : Int) != (l1 : Int)) = true := bne_iff_ne.2 (by omega)
    have HW := Lib.hid (why_sum (b := left) (n := rs.length) (k := k) H13.out (by rw [HS1.out, HL1.out]; exact hsum))
    clear hsum
    go_enter Tryz.func60, Tryz.ntmps60
    go_wp2_with fail
    refine wp_region_schG (fun W => W.cell? ⟨rb, 0, none⟩ = some (.slice (some ad) (a + (m + 13)) (a + C)) ∧ W.cell? ⟨rb, 1, none⟩ = some (.int .i64 (a : Int)) ∧ W.cell? ⟨rb, 2, none⟩ = some (.int .u32 (k : Int)) ∧ W.cell? ⟨rb, 3, none⟩ = some (.slice Al n cl) ∧ rb < W.heap.size ∧ Within w W) 9 (.firm 0 (.firm 1 (.firm 2 (.firm 3 (.firm 4 (.firm 5 (.firm 6 (.firm 7 (.firm 8 (.one 9 .nil)))))))))) (by kernel_rfl) (by kernel_rfl) ⟨p0, p1, p2, p3, hrb, Within.refl _⟩ ?_
    rintro w0 ⟨p0, p1, p2, p3, hrb, hw0⟩
    try simp only [Act.put, List.setIfInBounds_toArray, List.set_cons_zero, List.set_cons_succ]
    iterate 9
      apply sch_firm rfl rfl (by repeat (first | with_reducible exact Within.refl _ | with_reducible assumption | with_reducible refine Within.alloc ?_ _ | with_reducible refine Within.drew ?_ | with_reducible refine Within.drewN ?_ _ | with_reducible refine Within.setCell ?_ (by first | (simp; done) | (simp; omega)) _ | with_reducible refine Within.trans ?_ (by assumption)))
      · intro wq hq
        have hcq := hq.cells
        clear hq
        go_simp
        rfl
      try simp only [Act.put, List.setIfInBounds_toArray, List.set_cons_zero, List.set_cons_succ]
    refine sch_one rfl rfl (fun K hK => ?_)
    go_simp
    refine hK _ _ (fun h => absurd h (by decide)) ?_
    clear hK K
    try simp only [Act.put, List.setIfInBounds_toArray, List.set_cons_zero, List.set_cons_succ]
    refine sch_nil ?_
    rw [← hla]
    clear hla
    have HW0 := Lib.hid hw0.drew
    go_wp2_with fail
    refine wp_region_schG (fun W => W.cell? ⟨rb, 0, none⟩ = some (.slice (some ad) (a + (m + 13)) (a + C)) ∧ W.cell? ⟨rb, 1, none⟩ = some (.int .i64 (a : Int)) ∧ W.cell? ⟨rb, 2, none⟩ = some (.int .u32 (k : Int)) ∧ W.cell? ⟨rb, 3, none⟩ = some (.slice Al n cl) ∧ rb < W.heap.size ∧ SlAt W (some la) (u8v left) ∧ Within w W) 10 (.firm 0 (.firm 1 (.firm 3 (.firm 4 (.firm 5 (.firm 6 (.firm 7 (.firm 8 (.one 2 (.one 9 (.one 10 .nil))))))))))) (by kernel_rfl) (by kernel_rfl) ⟨p0, p1, p2, p3, hrb, HLS.out.of HW0.out, HW0.out⟩ ?_
    rintro w0 ⟨p0, p1, p2, p3, hrb, hls, hwr⟩
    try simp only [Act.put, List.setIfInBounds_toArray, List.set_cons_zero, List.set_cons_succ]
    iterate 8
      apply sch_firm rfl rfl (by repeat (first | with_reducible exact Within.refl _ | with_reducible assumption | with_reducible refine Within.alloc ?_ _ | with_reducible refine Within.drew ?_ | with_reducible refine Within.drewN ?_ _ | with_reducible refine Within.setCell ?_ (by first | (simp; done) | (simp; omega)) _ | with_reducible refine Within.trans ?_ (by assumption)))
      · intro wq hq
        have hcq := hq.cells
        clear hq
        go_simp
        rfl
      try simp only [Act.put, List.setIfInBounds_toArray, List.set_cons_zero, List.set_cons_succ]
    refine sch_one rfl rfl (fun K hK => ?_)
    go_simp
    refine (NB9.out _ (by exact hls.of (by repeat (first | with_reducible exact Within.refl _ | with_reducible assumption | with_reducible refine Within.alloc ?_ _ | with_reducible refine Within.drew ?_ | with_reducible refine Within.drewN ?_ _ | with_reducible refine Within.setCell ?_ (by first | (simp; done) | (simp; omega)) _ | with_reducible refine Within.trans ?_ (by assumption))))).mono ?_; rintro e2 w2 ⟨rfl, h2⟩
    refine hK _ _ (fun _ => (by repeat (first | with_reducible exact Within.refl _ | with_reducible assumption | with_reducible refine Within.alloc ?_ _ | with_reducible refine Within.drew ?_ | with_reducible refine Within.drewN ?_ _ | with_reducible refine Within.setCell ?_ (by first | (simp; done) | (simp; omega)) _ | with_reducible refine Within.trans ?_ (by assumption)))) ?_
    clear hK K
    try simp only [Act.put, List.setIfInBounds_toArray, List.set_cons_zero, List.set_cons_succ]
    refine sch_one rfl rfl (fun K hK => ?_)
    go_simp
    refine (SB9.out _ (by exact hls.of (by repeat (first | with_reducible exact Within.refl _ | with_reducible assumption | with_reducible refine Within.alloc ?_ _ | with_reducible refine Within.drew ?_ | with_reducible refine Within.drewN ?_ _ | with_reducible refine Within.setCell ?_ (by first | (simp; done) | (simp; omega)) _ | with_reducible refine Within.trans ?_ (by assumption))))).mono ?_; rintro e3 w3 ⟨rfl, h3⟩
    refine hK _ _ (fun _ => (by repeat (first | with_reducible exact Within.refl _ | with_reducible assumption | with_reducible refine Within.alloc ?_ _ | with_reducible refine Within.drew ?_ | with_reducible refine Within.drewN ?_ _ | with_reducible refine Within.setCell ?_ (by first | (simp; done) | (simp; omega)) _ | with_reducible refine Within.trans ?_ (by assumption)))) ?_
    clear hK K
    try simp only [Act.put, List.setIfInBounds_toArray, List.set_cons_zero, List.set_cons_succ]
    refine sch_one rfl rfl (fun K hK => ?_)
    go_simp
    refine hK _ _ (fun h => absurd h (by decide)) ?_
    clear hK K
    try simp only [Act.put, List.setIfInBounds_toArray, List.set_cons_zero, List.set_cons_succ]
    refine sch_nil ?_
    go_wp2
    go_ret2
    exact NextPost.why HNE.out HW.out (by decide) (by repeat (first | with_reducible exact Within.refl _ | with_reducible assumption | with_reducible refine Within.alloc ?_ _ | with_reducible refine Within.drew ?_ | with_reducible refine Within.drewN ?_ _ | with_reducible refine Within.setCell ?_ (by first | (simp; done) | (simp; omega)) _ | with_reducible refine Within.trans ?_ (by assumption)))
end Go.Proofs.YtpmjlaiafgbjgaaGreatDoor
end

section
namespace Go.Proofs.YtpmjlaiafgbjgaaGreatDoor
open Go.RowKit
def TakePost (w : World) (b : List Nat) (n k : Nat) (e : Ending) (w' : World) : Prop :=
  (whyV pf b n k ≠ 0 ∧ e = .returned (.tuple #[.agg #[.int .i64 0, .slice none 0 0], .int .i64 0, .int .u32 0, .int .i64 (whyV pf b n k : Int)]) ∧ Within w w') ∨
  (whyV pf b n k = 0 ∧ ∃ v, e = .returned (.tuple #[.agg #[.int .i64 (b.getD 0 0 : Int), v], .int .i64 ((endV b + 4 : Nat) : Int), .int .u32 (linkV k (b.take (endV b)) : Int), .int .i64 0]) ∧ OwnB w' w.heap.size v ((b.drop 13).take (at4 b 5)) ∧ Within w w')
theorem TakePost.no {w w' : World} {b : List Nat} {n k y : Nat} (h : whyV pf b n k = y) (hy : y ≠ 0) (hw : Within w w') : TakePost w b n k (.returned (.tuple #[.agg #[.int .i64 0, .slice none 0 0], .int .i64 0, .int .u32 0, .int .i64 (y : Int)])) w' := .inl ⟨by rw [h]; exact hy, by rw [h], hw⟩
set_option maxRecDepth 100000 in
set_option maxHeartbeats 1000000 in
theorem Rtake22_any (A : Option Addr) (c : Nat) (b : List Nat) (hb : Bytes b) (hlen : b.length ≤ 140737488355328) (hcb : b.length ≤ c) (n k : Nat) (hk : k < 4294967296) (hn : n ≤ 1048576) (w : World) (hr : SlAt w A (u8v b)) : Calls Tryz.prog 45 #[.slice A b.length c, .int .i64 (n : Int), .int .u32 (k : Int)] w (TakePost w b n k) := by
  obtain ⟨WT, hWT⟩ : ∃ WT, WT = w.alloc (.cells #[.int .i64 0, .slice none 0 0] 30) := ⟨_, rfl⟩
  have q0 : WT.cell? ⟨w.heap.size, 0, none⟩ = some (.int .i64 0) := by rw [hWT]; simp
  have q1 : WT.cell? ⟨w.heap.size, 1, none⟩ = some (.slice none 0 0) := by rw [hWT]; simp
  have qf0 : WT.frozen? ⟨w.heap.size, 0, none⟩ = false := by rw [hWT]; simp
  have qf1 : WT.frozen? ⟨w.heap.size, 1, none⟩ = false := by rw [hWT]; simp
  have hWW0 : Within w WT := by rw [hWT]; exact (Within.refl w).alloc _
  have qs : w.heap.size < WT.heap.size := by rw [hWT]; simp
  have HWN : Hid (Within w WT) := Lib.hid hWW0
  have HR := Lib.hid (hr.of hWW0); have HB := Lib.hid hb
  clear hWW0 hr hb
  obtain ⟨N, hN⟩ : ∃ N, b.length = N := ⟨_, rfl⟩
  rw [hN] at hlen hcb ⊢
  have HN := Lib.hid hN; clear hN
  by_cases h13 : N < 13
  · have v0 : decide ((N : Int) < 13) = true := decide_eq_true (by omega)
    have HW := Lib.hid (why_few (n := n) (k := k) (b := b) (by rw [HN.out]; exact h13))
    clear h13 hn hk
    go_enter Tryz.func45, Tryz.ntmps45
    go_wp2_with fail
    rw [← hWT]
    clear hWT
    go_wp2
    refine bodyPost_ret (v := .tuple #[.agg #[.int .i64 0, .slice none 0 0], .int .i64 0, .int .u32 0, .int .i64 2]) (by simp [results, Tryz.results45, go_sem, q0, q1, qf0, qf1, qs]) rfl (TakePost.no HW.out (by decide) ?_)
    have hwr := HWN.out
    exact (by repeat (first | with_reducible exact Within.refl _ | with_reducible assumption | with_reducible refine Within.alloc ?_ _ | with_reducible refine Within.drew ?_ | with_reducible refine Within.drewN ?_ _ | with_reducible refine Within.setCell ?_ (by first | (simp; done) | (simp; omega)) _ | with_reducible refine Within.trans ?_ (by assumption)))
  have H13 : Hid (¬ b.length < 13) := Lib.hid (by rw [HN.out]; exact h13)
  obtain ⟨m, rfl⟩ : ∃ m, N = m + 13 := ⟨N - 13, by omega⟩
  clear h13
  obtain ⟨ad, rfl, _, _⟩ := SlAt.at (l := b) (k := 0) (by exact HR.out) (by rw [HN.out]; omega)
  have NB : Hid (∀ (W : World) (i : Nat), i ≠ 0 → i + 4 ≤ m + 13 → SlAt W (some ad) (u8v b) → Calls Tryz.prog 63 #[.slice (some ⟨ad.block, ad.off + i, none⟩) 4 (c - i)] W fun e w' => e = .returned (.int .u64 (at4 b i : Int)) ∧ W = w') := Lib.hid (fun W i h0 hi h => by have := Rtake_at ad 0 i 4 b HB.out (by decide) (by rw [HN.out]; omega) (c - i) W h; rw [add_plain' ad h0] at this; exact this)
  have SB : Hid (∀ (W : World) (i : Nat), i ≤ m + 13 → i ≤ 1048600 → SlAt W (some ad) (u8v b) → Calls Tryz.prog 64 #[.int .u32 (k : Int), .slice (some ad) i c] W fun e w' => e = .returned (.int .u32 (linkV k (b.take i) : Int)) ∧ Within W w') := Lib.hid (fun W i hi hi2 h => by
    have hl : (b.take i).length = i := by rw [List.length_take, HN.out]; omega
    have h2 : SlAt W (some ad) (u8v (b.take i)) := by have := h.take i; unfold u8v at this ⊢; rwa [← List.map_take] at this
    have := Rlink_any k hk (some ad) c (b.take i) (HB.out.take i) (by omega) W h2; rw [hl] at this; exact this)
  obtain ⟨x, hx⟩ : ∃ x, b.getD 0 0 = x := ⟨_, rfl⟩
  have KX : Hid (∀ W, SlAt W (some ad) (u8v b) → W.cell? ad = some (.int .u8 (x : Int))) := Lib.hid (fun W h => by obtain ⟨ad', e', _, hc⟩ := SlAt.at (l := b) (k := 0) (by exact h) (by rw [HN.out]; omega); obtain rfl := Option.some.inj e'; rw [add_nought, hx] at hc; exact hc)
  have hxl : x < 256 := by rw [← hx]; exact HB.out.at (by rw [HN.out]; omega)
  obtain ⟨s1, hs1⟩ : ∃ s, at4 b 9 = s := ⟨_, rfl⟩
  obtain ⟨l1, hl1⟩ : ∃ s, linkV k (b.take 9) = s := ⟨_, rfl⟩
  obtain ⟨sz, hsz⟩ : ∃ s, at4 b 5 = s := ⟨_, rfl⟩
  obtain ⟨q, hq⟩ : ∃ s, at4 b 1 = s := ⟨_, rfl⟩
  have hszl : sz < 4294967296 := by rw [← hsz]; exact at4_lt HB.out 5
  have hql : q < 4294967296 := by rw [← hq]; exact at4_lt HB.out 1
  have hs1l : s1 < 4294967296 := by rw [← hs1]; exact at4_lt HB.out 9
  have hl1l : l1 < 4294967296 := by rw [← hl1]; exact linkV_lt (HB.out.take 9)
  have NB9 := Lib.hid (fun W => NB.out W 9 (by decide) (by omega))
  have NB5 := Lib.hid (fun W => NB.out W 5 (by decide) (by omega))
  have NB1 := Lib.hid (fun W => NB.out W 1 (by decide) (by omega))
  rw [hs1] at NB9
  rw [hsz] at NB5
  rw [hq] at NB1
  have SB9 := Lib.hid (fun W => SB.out W 9 (by omega) (by omega))
  rw [hl1] at SB9
  have HX := Lib.hid hx; have HS1 := Lib.hid hs1; have HL1 := Lib.hid hl1; have HSZ := Lib.hid hsz; have HQ := Lib.hid hq; clear hx hs1 hl1 hsz hq
  have v0 : decide ((m : Int) + 13 < 13) = false := decide_eq_false (by omega)
  have cw1 : IntKind.u64.wrap (l1 : Int) = (l1 : Int) := by rw [IntKind.wrap_u64]; omega
  have cwx : IntKind.i64.wrap (x : Int) = (x : Int) := by rw [IntKind.wrap_i64]; omega
  have cwn : IntKind.u64.wrap (n : Int) = (n : Int) := by rw [IntKind.wrap_u64]; omega
  have d1 : (1 : Int) ≤ (m : Int) + 13 := by omega
  have d5 : (5 : Int) ≤ (m : Int) + 13 := by omega
  have d9 : (9 : Int) ≤ (m : Int) + 13 := by omega
  have d13 : (13 : Int) ≤ (m : Int) + 13 := by omega
  have f1 : (1 : Int) ≤ (c : Int) := by omega
  have f5 : (5 : Int) ≤ (c : Int) := by omega
  have f9 : (9 : Int) ≤ (c : Int) := by omega
  have f13 : (13 : Int) ≤ (c : Int) := by omega
  have g1 : ¬ c = 1 := by omega
  have g5 : ¬ c = 5 := by omega
  have g9 : ¬ c = 9 := by omega
  have i1 : 1 ≤ c := by omega
  have i5 : 5 ≤ c := by omega
  have i9 : 9 ≤ c := by omega
  have i13 : 13 ≤ c := by omega
  have z0 : (0 : Int) < (m : Int) + 13 := by omega
  have e0 : (m : Int) + 13 ≤ (c : Int) := by omega
  by_cases hsum : s1 = l1
  · obtain rfl := hsum
    have n1 : ((s1 : Int) != (s1 : Int)) = false := by simp
    have HSE : Hid (¬ at4 b 9 ≠ linkV k (b.take 9)) := Lib.hid (by rw [HS1.out, HL1.out]; exact fun h => h rfl)
    go_enter Tryz.func45, Tryz.ntmps45
    go_wp2_with fail
    rw [← hWT]
    clear hWT
    refine wp_region_schG (fun W => SlAt W (some ad) (u8v b) ∧ Within WT W ∧ W.cell? ⟨w.heap.size, 0, none⟩ = some (.int .i64 0) ∧ W.cell? ⟨w.heap.size, 1, none⟩ = some (.slice none 0 0) ∧ W.frozen? ⟨w.heap.size, 0, none⟩ = false ∧ W.frozen? ⟨w.heap.size, 1, none⟩ = false ∧ w.heap.size < W.heap.size) 8 (.firm 0 (.firm 1 (.firm 3 (.firm 4 (.firm 5 (.one 2 (.one 6 (.firm 7 (.one 8 .nil))))))))) (by kernel_rfl) (by kernel_rfl) ⟨HR.out, Within.refl _, q0, q1, qf0, qf1, qs⟩ ?_
    rintro w0 ⟨hls, hw0, q0, q1, qf0, qf1, qs⟩
    try simp only [Act.put, List.setIfInBounds_toArray, List.set_cons_zero, List.set_cons_succ]
    iterate 5
      apply sch_firm rfl rfl (by repeat (first | with_reducible exact Within.refl _ | with_reducible assumption | with_reducible refine Within.alloc ?_ _ | with_reducible refine Within.drew ?_ | with_reducible refine Within.drewN ?_ _ | with_reducible refine Within.setCell ?_ (by first | (simp; done) | (simp; omega)) _ | with_reducible refine Within.trans ?_ (by assumption)))
      · intro wq hq
        have hcq := hq.cells
        clear hq
        go_simp
        rfl
      try simp only [Act.put, List.setIfInBounds_toArray, List.set_cons_zero, List.set_cons_succ]
    refine sch_one rfl rfl (fun K hK => ?_)
    go_simp
    refine (NB9.out _ (by exact hls.of (by repeat (first | with_reducible exact Within.refl _ | with_reducible assumption | with_reducible refine Within.alloc ?_ _ | with_reducible refine Within.drew ?_ | with_reducible refine Within.drewN ?_ _ | with_reducible refine Within.setCell ?_ (by first | (simp; done) | (simp; omega)) _ | with_reducible refine Within.trans ?_ (by assumption))))).mono ?_; rintro e2 w2 ⟨rfl, rfl⟩
    refine hK _ _ (fun _ => (by repeat (first | with_reducible exact Within.refl _ | with_reducible assumption | with_reducible refine Within.alloc ?_ _ | with_reducible refine Within.drew ?_ | with_reducible refine Within.drewN ?_ _ | with_reducible refine Within.setCell ?_ (by first | (simp; done) | (simp; omega)) _ | with_reducible refine Within.trans ?_ (by assumption)))) ?_
    clear hK K
    try simp only [Act.put, List.setIfInBounds_toArray, List.set_cons_zero, List.set_cons_succ]
    refine sch_one rfl rfl (fun K hK => ?_)
    go_simp
    refine (SB9.out _ (by exact hls.of (by repeat (first | with_reducible exact Within.refl _ | with_reducible assumption | with_reducible refine Within.alloc ?_ _ | with_reducible refine Within.drew ?_ | with_reducible refine Within.drewN ?_ _ | with_reducible refine Within.setCell ?_ (by first | (simp; done) | (simp; omega)) _ | with_reducible refine Within.trans ?_ (by assumption))))).mono ?_; rintro e3 w3 ⟨rfl, h3⟩
    refine hK _ _ (fun _ => (by repeat (first | with_reducible exact Within.refl _ | with_reducible assumption | with_reducible refine Within.alloc ?_ _ | with_reducible refine Within.drew ?_ | with_reducible refine Within.drewN ?_ _ | with_reducible refine Within.setCell ?_ (by first | (simp; done) | (simp; omega)) _ | with_reducible refine Within.trans ?_ (by assumption)))) ?_
    clear hK K
    try simp only [Act.put, List.setIfInBounds_toArray, List.set_cons_zero, List.set_cons_succ]
    apply sch_firm rfl rfl (by repeat (first | with_reducible exact Within.refl _ | with_reducible assumption | with_reducible refine Within.alloc ?_ _ | with_reducible refine Within.drew ?_ | with_reducible refine Within.drewN ?_ _ | with_reducible refine Within.setCell ?_ (by first | (simp; done) | (simp; omega)) _ | with_reducible refine Within.trans ?_ (by assumption)))
    · intro wq hq
      have hcq := hq.cells
      clear hq
      go_simp
      rfl
    try simp only [Act.put, List.setIfInBounds_toArray, List.set_cons_zero, List.set_cons_succ]
    refine sch_one rfl rfl (fun K hK => ?_)
    go_simp
    refine hK _ _ (fun h => absurd h (by decide)) ?_
    clear hK K
    try simp only [Act.put, List.setIfInBounds_toArray, List.set_cons_zero, List.set_cons_succ]
    refine sch_nil ?_
    have HWN := Lib.hid (HWN.out.trans hw0)
    have hxx : Within w0 w3 := (by repeat (first | with_reducible exact Within.refl _ | with_reducible assumption | with_reducible refine Within.alloc ?_ _ | with_reducible refine Within.drew ?_ | with_reducible refine Within.drewN ?_ _ | with_reducible refine Within.setCell ?_ (by first | (simp; done) | (simp; omega)) _ | with_reducible refine Within.trans ?_ (by assumption)))
    have q0 := (hxx.cells _ _ qs).trans q0
    have q1 := (hxx.cells _ _ qs).trans q1
    have qf0 := (hxx.frozens _ _ qs).trans qf0
    have qf1 := (hxx.frozens _ _ qs).trans qf1
    have qs := Nat.lt_of_lt_of_le qs hxx.size
    have HWN := Lib.hid (HWN.out.trans hxx)
    clear hxx
    have HR : Hid (SlAt w3 (some ad) (u8v b)) := Lib.hid (hls.of (by repeat (first | with_reducible exact Within.refl _ | with_reducible assumption | with_reducible refine Within.alloc ?_ _ | with_reducible refine Within.drew ?_ | with_reducible refine Within.drewN ?_ _ | with_reducible refine Within.setCell ?_ (by first | (simp; done) | (simp; omega)) _ | with_reducible refine Within.trans ?_ (by assumption))))
    clear h3 hls hw0
    have kx := KX.out _ HR.out
    by_cases x1 : x < 1
    · have u1 : decide ((x : Int) < 1) = true := decide_eq_true (by omega)
      have HW := Lib.hid (why_form (b := b) (n := n) (k := k) H13.out HSE.out (by rw [HX.out, HQ.out, HSZ.out]; exact .inl x1))
      go_wp2_with fail
      refine (NB5.out _ (by exact HR.out.of (by repeat (first | with_reducible exact Within.refl _ | with_reducible assumption | with_reducible refine Within.alloc ?_ _ | with_reducible refine Within.drew ?_ | with_reducible refine Within.drewN ?_ _ | with_reducible refine Within.setCell ?_ (by first | (simp; done) | (simp; omega)) _ | with_reducible refine Within.trans ?_ (by assumption))))).mono ?_; rintro e5 w5 ⟨rfl, rfl⟩
      go_wp2_with fail
      go_wp2
      refine bodyPost_ret (v := .tuple #[.agg #[.int .i64 0, .slice none 0 0], .int .i64 0, .int .u32 0, .int .i64 3]) (by simp [results, Tryz.results45, go_sem, q0, q1, qf0, qf1, qs]) rfl (TakePost.no HW.out (by decide) ?_)
      have hwr := HWN.out
      exact (by repeat (first | with_reducible exact Within.refl _ | with_reducible assumption | with_reducible refine Within.alloc ?_ _ | with_reducible refine Within.drew ?_ | with_reducible refine Within.drewN ?_ _ | with_reducible refine Within.setCell ?_ (by first | (simp; done) | (simp; omega)) _ | with_reducible refine Within.trans ?_ (by assumption)))
    · by_cases x2 : 3 < x
      · have u1 : decide ((x : Int) < 1) = false := decide_eq_false (by omega)
        have u2 : decide ((x : Int) > 3) = true := decide_eq_true (by omega)
        have HW := Lib.hid (why_form (b := b) (n := n) (k := k) H13.out HSE.out (by rw [HX.out, HQ.out, HSZ.out]; exact .inr (.inl x2)))
        go_wp2_with fail
        refine (NB5.out _ (by exact HR.out.of (by repeat (first | with_reducible exact Within.refl _ | with_reducible assumption | with_reducible refine Within.alloc ?_ _ | with_reducible refine Within.drew ?_ | with_reducible refine Within.drewN ?_ _ | with_reducible refine Within.setCell ?_ (by first | (simp; done) | (simp; omega)) _ | with_reducible refine Within.trans ?_ (by assumption))))).mono ?_; rintro e5 w5 ⟨rfl, rfl⟩
        go_wp2_with fail
        go_wp2
        refine bodyPost_ret (v := .tuple #[.agg #[.int .i64 0, .slice none 0 0], .int .i64 0, .int .u32 0, .int .i64 3]) (by simp [results, Tryz.results45, go_sem, q0, q1, qf0, qf1, qs]) rfl (TakePost.no HW.out (by decide) ?_)
        have hwr := HWN.out
        exact (by repeat (first | with_reducible exact Within.refl _ | with_reducible assumption | with_reducible refine Within.alloc ?_ _ | with_reducible refine Within.drew ?_ | with_reducible refine Within.drewN ?_ _ | with_reducible refine Within.setCell ?_ (by first | (simp; done) | (simp; omega)) _ | with_reducible refine Within.trans ?_ (by assumption)))
      · by_cases x3 : q = n
        · by_cases x4 : 1048576 < sz
          · have u1 : decide ((x : Int) < 1) = false := decide_eq_false (by omega)
            have u2 : decide ((x : Int) > 3) = false := decide_eq_false (by omega)
            have u3 : ((q : Int) != (n : Int)) = false := by rw [bne_eq_false_iff_eq]; omega
            have u4 : decide ((sz : Int) > 1048576) = true := decide_eq_true (by omega)
            have HW := Lib.hid (why_form (b := b) (n := n) (k := k) H13.out HSE.out (by rw [HX.out, HQ.out, HSZ.out]; exact .inr (.inr (.inr (.inl x4)))))
            go_wp2_with fail
            refine (NB5.out _ (by exact HR.out.of (by repeat (first | with_reducible exact Within.refl _ | with_reducible assumption | with_reducible refine Within.alloc ?_ _ | with_reducible refine Within.drew ?_ | with_reducible refine Within.drewN ?_ _ | with_reducible refine Within.setCell ?_ (by first | (simp; done) | (simp; omega)) _ | with_reducible refine Within.trans ?_ (by assumption))))).mono ?_; rintro e5 w5 ⟨rfl, rfl⟩
            go_wp2_with fail
            refine (NB1.out _ (by exact HR.out.of (by repeat (first | with_reducible exact Within.refl _ | with_reducible assumption | with_reducible refine Within.alloc ?_ _ | with_reducible refine Within.drew ?_ | with_reducible refine Within.drewN ?_ _ | with_reducible refine Within.setCell ?_ (by first | (simp; done) | (simp; omega)) _ | with_reducible refine Within.trans ?_ (by assumption))))).mono ?_; rintro e6 w6 ⟨rfl, rfl⟩
            go_wp2_with fail
            go_wp2
            refine bodyPost_ret (v := .tuple #[.agg #[.int .i64 0, .slice none 0 0], .int .i64 0, .int .u32 0, .int .i64 3]) (by simp [results, Tryz.results45, go_sem, q0, q1, qf0, qf1, qs]) rfl (TakePost.no HW.out (by decide) ?_)
            have hwr := HWN.out
            exact (by repeat (first | with_reducible exact Within.refl _ | with_reducible assumption | with_reducible refine Within.alloc ?_ _ | with_reducible refine Within.drew ?_ | with_reducible refine Within.drewN ?_ _ | with_reducible refine Within.setCell ?_ (by first | (simp; done) | (simp; omega)) _ | with_reducible refine Within.trans ?_ (by assumption)))
          · by_cases x5 : 1048576 ≤ n
            · have u1 : decide ((x : Int) < 1) = false := decide_eq_false (by omega)
              have u2 : decide ((x : Int) > 3) = false := decide_eq_false (by omega)
              have u3 : ((q : Int) != (n : Int)) = false := by rw [bne_eq_false_iff_eq]; omega
              have u4 : decide ((sz : Int) > 1048576) = false := decide_eq_false (by omega)
              have u5 : decide ((n : Int) ≥ 1048576) = true := decide_eq_true (by omega)
              have HW := Lib.hid (why_form (b := b) (n := n) (k := k) H13.out HSE.out (by rw [HX.out, HQ.out, HSZ.out]; exact .inr (.inr (.inr (.inr x5)))))
              go_wp2_with fail
              refine (NB5.out _ (by exact HR.out.of (by repeat (first | with_reducible exact Within.refl _ | with_reducible assumption | with_reducible refine Within.alloc ?_ _ | with_reducible refine Within.drew ?_ | with_reducible refine Within.drewN ?_ _ | with_reducible refine Within.setCell ?_ (by first | (simp; done) | (simp; omega)) _ | with_reducible refine Within.trans ?_ (by assumption))))).mono ?_; rintro e5 w5 ⟨rfl, rfl⟩
              go_wp2_with fail
              refine (NB1.out _ (by exact HR.out.of (by repeat (first | with_reducible exact Within.refl _ | with_reducible assumption | with_reducible refine Within.alloc ?_ _ | with_reducible refine Within.drew ?_ | with_reducible refine Within.drewN ?_ _ | with_reducible refine Within.setCell ?_ (by first | (simp; done) | (simp; omega)) _ | with_reducible refine Within.trans ?_ (by assumption))))).mono ?_; rintro e6 w6 ⟨rfl, rfl⟩
              go_wp2_with fail
              go_wp2
              refine bodyPost_ret (v := .tuple #[.agg #[.int .i64 0, .slice none 0 0], .int .i64 0, .int .u32 0, .int .i64 3]) (by simp [results, Tryz.results45, go_sem, q0, q1, qf0, qf1, qs]) rfl (TakePost.no HW.out (by decide) ?_)
              have hwr := HWN.out
              exact (by repeat (first | with_reducible exact Within.refl _ | with_reducible assumption | with_reducible refine Within.alloc ?_ _ | with_reducible refine Within.drew ?_ | with_reducible refine Within.drewN ?_ _ | with_reducible refine Within.setCell ?_ (by first | (simp; done) | (simp; omega)) _ | with_reducible refine Within.trans ?_ (by assumption)))
            · have HF : Hid (¬ (b.getD 0 0 < 1 ∨ 3 < b.getD 0 0 ∨ at4 b 1 ≠ n ∨ 1048576 < at4 b 5 ∨ 1048576 ≤ n)) := Lib.hid (by rw [HX.out, HQ.out, HSZ.out]; omega)
              obtain ⟨E, hE⟩ : ∃ E, 13 + sz = E := ⟨_, rfl⟩
              have HEV : Hid (endV b = E) := Lib.hid (by unfold endV; rw [HSZ.out]; exact hE)
              have cE : (13 : Int) + (sz : Int) = (E : Int) := by omega
              have hEl : E ≤ 1048589 := by omega
              have hE13 : 13 ≤ E := by omega
              have HEE := Lib.hid hE; clear hE
              by_cases hsh : m + 13 < E + 4
              · have u1 : decide ((x : Int) < 1) = false := decide_eq_false (by omega)
                have u2 : decide ((x : Int) > 3) = false := decide_eq_false (by omega)
                have u3 : ((q : Int) != (n : Int)) = false := by rw [bne_eq_false_iff_eq]; omega
                have u4 : decide ((sz : Int) > 1048576) = false := decide_eq_false (by omega)
                have u5 : decide ((n : Int) ≥ 1048576) = false := decide_eq_false (by omega)
                have v1 : decide ((m : Int) + 13 < (E : Int) + 4) = true := decide_eq_true (by omega)
                have HW := Lib.hid (why_short (b := b) (n := n) (k := k) H13.out HSE.out HF.out (by rw [HN.out, HEV.out]; exact hsh))
                go_wp2_with fail
                refine (NB5.out _ (by exact HR.out.of (by repeat (first | with_reducible exact Within.refl _ | with_reducible assumption | with_reducible refine Within.alloc ?_ _ | with_reducible refine Within.drew ?_ | with_reducible refine Within.drewN ?_ _ | with_reducible refine Within.setCell ?_ (by first | (simp; done) | (simp; omega)) _ | with_reducible refine Within.trans ?_ (by assumption))))).mono ?_; rintro e5 w5 ⟨rfl, rfl⟩
                go_wp2_with fail
                refine (NB1.out _ (by exact HR.out.of (by repeat (first | with_reducible exact Within.refl _ | with_reducible assumption | with_reducible refine Within.alloc ?_ _ | with_reducible refine Within.drew ?_ | with_reducible refine Within.drewN ?_ _ | with_reducible refine Within.setCell ?_ (by first | (simp; done) | (simp; omega)) _ | with_reducible refine Within.trans ?_ (by assumption))))).mono ?_; rintro e6 w6 ⟨rfl, rfl⟩
                go_wp2_with fail
                go_wp2
                refine bodyPost_ret (v := .tuple #[.agg #[.int .i64 0, .slice none 0 0], .int .i64 0, .int .u32 0, .int .i64 2]) (by simp [results, Tryz.results45, go_sem, q0, q1, qf0, qf1, qs]) rfl (TakePost.no HW.out (by decide) ?_)
                have hwr := HWN.out
                exact (by repeat (first | with_reducible exact Within.refl _ | with_reducible assumption | with_reducible refine Within.alloc ?_ _ | with_reducible refine Within.drew ?_ | with_reducible refine Within.drewN ?_ _ | with_reducible refine Within.setCell ?_ (by first | (simp; done) | (simp; omega)) _ | with_reducible refine Within.trans ?_ (by assumption)))
              · have v1 : decide ((m : Int) + 13 < (E : Int) + 4) = false := decide_eq_false (by omega)
                have HSH : Hid (¬ b.length < endV b + 4) := Lib.hid (by rw [HN.out, HEV.out]; exact hsh)
                obtain ⟨nx, hnx⟩ : ∃ s, linkV k (b.take E) = s := ⟨_, rfl⟩
                obtain ⟨s2, hs2⟩ : ∃ s, at4 b E = s := ⟨_, rfl⟩
                have hnxl : nx < 4294967296 := by rw [← hnx]; exact linkV_lt (HB.out.take E)
                have hs2l : s2 < 4294967296 := by rw [← hs2]; exact at4_lt HB.out E
                have SBE := Lib.hid (fun W => SB.out W E (by omega) (by omega))
                rw [hnx] at SBE
                have NBE : Hid (∀ W, SlAt W (some ad) (u8v b) → Calls Tryz.prog 63 #[.slice (some (ad.add E)) 4 (c - E)] W fun e w' => e = .returned (.int .u64 (s2 : Int)) ∧ W = w') := Lib.hid (fun W h => by rw [← hs2]; exact Rtake_at ad 0 E 4 b HB.out (by decide) (by rw [HN.out]; omega) (c - E) W h)
                have HNX := Lib.hid hnx; have HS2 := Lib.hid hs2; clear hnx hs2
                have t1 : (0 : Int) ≤ (E : Int) := by omega
                have t2 : (E : Int) ≤ (c : Int) := by omega
                have t3 : E ≤ c := by omega
                have t4 : (E : Int) + 4 ≤ (c : Int) := by omega
                have t5 : E + 4 ≤ c := by omega
                have t6 : ¬ c = E := by omega
                have t7 : (E : Int) ≤ (m : Int) + 13 := by omega
                have u1 : decide ((x : Int) < 1) = false := decide_eq_false (by omega)
                have u2 : decide ((x : Int) > 3) = false := decide_eq_false (by omega)
                have u3 : ((q : Int) != (n : Int)) = false := by rw [bne_eq_false_iff_eq]; omega
                have u4 : decide ((sz : Int) > 1048576) = false := decide_eq_false (by omega)
                have u5 : decide ((n : Int) ≥ 1048576) = false := decide_eq_false (by omega)
                go_wp2_with fail
                refine (NB5.out _ (by exact HR.out.of (by repeat (first | with_reducible exact Within.refl _ | with_reducible assumption | with_reducible refine Within.alloc ?_ _ | with_reducible refine Within.drew ?_ | with_reducible refine Within.drewN ?_ _ | with_reducible refine Within.setCell ?_ (by first | (simp; done) | (simp; omega)) _ | with_reducible refine Within.trans ?_ (by assumption))))).mono ?_; rintro e5 w5 ⟨rfl, rfl⟩
                go_wp2_with fail
                refine (NB1.out _ (by exact HR.out.of (by repeat (first | with_reducible exact Within.refl _ | with_reducible assumption | with_reducible refine Within.alloc ?_ _ | with_reducible refine Within.drew ?_ | with_reducible refine Within.drewN ?_ _ | with_reducible refine Within.setCell ?_ (by first | (simp; done) | (simp; omega)) _ | with_reducible refine Within.trans ?_ (by assumption))))).mono ?_; rintro e6 w6 ⟨rfl, rfl⟩
                go_wp2_with fail
                have hA : Within w3 (w3.alloc (.cells #[.int .i64 (x : Int), .slice none 0 0] 30)) := (Within.refl w3).alloc _
                refine (SBE.out _ (HR.out.of hA)).mono ?_; rintro e7 w7 ⟨rfl, h7⟩
                have r0 : w7.cell? ⟨w3.heap.size, 0, none⟩ = some (.int .i64 (x : Int)) := (h7.cells _ _ (by simp)).trans (by simp)
                have r1 : w7.cell? ⟨w3.heap.size, 1, none⟩ = some (.slice none 0 0) := (h7.cells _ _ (by simp)).trans (by simp)
                have rf0 : w7.frozen? ⟨w3.heap.size, 0, none⟩ = false := (h7.frozens _ _ (by simp)).trans (by simp)
                have rf1 : w7.frozen? ⟨w3.heap.size, 1, none⟩ = false := (h7.frozens _ _ (by simp)).trans (by simp)
                have rs7 : w3.heap.size < w7.heap.size := Nat.lt_of_lt_of_le (by simp) h7.size
                have rne : ¬ w.heap.size = w3.heap.size := by omega
                have hxx : Within w3 w7 := (by repeat (first | with_reducible exact Within.refl _ | with_reducible assumption | with_reducible refine Within.alloc ?_ _ | with_reducible refine Within.drew ?_ | with_reducible refine Within.drewN ?_ _ | with_reducible refine Within.setCell ?_ (by first | (simp; done) | (simp; omega)) _ | with_reducible refine Within.trans ?_ (by assumption)))
                have q0 := (hxx.cells _ _ qs).trans q0
                have q1 := (hxx.cells _ _ qs).trans q1
                have qf0 := (hxx.frozens _ _ qs).trans qf0
                have qf1 := (hxx.frozens _ _ qs).trans qf1
                have qs := Nat.lt_of_lt_of_le qs hxx.size
                have HWN := Lib.hid (HWN.out.trans hxx)
                clear hxx
                have qs7 := qs
                have HR7 : Hid (SlAt w7 (some ad) (u8v b)) := Lib.hid (HR.out.of (hA.trans h7))
                clear h7 hA
                by_cases hlk : s2 = nx
                · have v2 : ((s2 : Int) != (nx : Int)) = false := by rw [bne_eq_false_iff_eq]; omega
                  have HLE : Hid (¬ at4 b (endV b) ≠ linkV k (b.take (endV b))) := Lib.hid (by rw [HEV.out, HS2.out, HNX.out]; exact fun h => h hlk)
                  clear hlk
                  go_wp2_with fail
                  refine (NBE.out _ (by exact HR7.out)).mono ?_; rintro e8 w8 ⟨rfl, rfl⟩
                  obtain ⟨dd, hdd⟩ : ∃ dd, (b.drop 13).take sz = dd := ⟨_, rfl⟩
                  have hdl : dd.length = sz := by rw [← hdd, List.length_take, List.length_drop, HN.out]; have := HEE.out; omega
                  have hdb : Bytes dd := by rw [← hdd]; exact (HB.out.drop 13).take sz
                  have hds : SlAt w7 (some (ad.add 13)) (u8v dd) := by have := (left_at HR7.out 13).take sz; rw [← hdd]; unfold u8v at this ⊢; rwa [← List.map_take] at this
                  rw [add_plain' ad (by decide)] at hds
                  have hin2 := (Within.refl w7).alloc (.cells #[] 5)
                  obtain ⟨v9, w9, hrun, hO9, hB9⟩ := run_app_u8 _ w7.heap.size _ [] dd (OwnB.lit w7 w7.heap.size (Nat.le_refl _) [] (by simp)) (some ⟨ad.block, ad.off + 13, none⟩) (c - 13) (hds.of hin2) (by rw [List.length_nil, hdl]; omega) hin2.size
                  rw [List.nil_append] at hO9
                  have hX9 : Within w7 w9 := Below.trans hin2 hB9
                  have r0 := (hX9.cells _ _ rs7).trans r0
                  have r1 := (hX9.cells _ _ rs7).trans r1
                  have rf0 := (hX9.frozens _ _ rs7).trans rf0
                  have rf1 := (hX9.frozens _ _ rs7).trans rf1
                  have rs9 := Nat.lt_of_lt_of_le rs7 hX9.size
                  have hxx : Within w7 w9 := (by repeat (first | with_reducible exact Within.refl _ | with_reducible assumption | with_reducible refine Within.alloc ?_ _ | with_reducible refine Within.drew ?_ | with_reducible refine Within.drewN ?_ _ | with_reducible refine Within.setCell ?_ (by first | (simp; done) | (simp; omega)) _ | with_reducible refine Within.trans ?_ (by assumption)))
                  have q0 := (hxx.cells _ _ qs).trans q0
                  have q1 := (hxx.cells _ _ qs).trans q1
                  have qf0 := (hxx.frozens _ _ qs).trans qf0
                  have qf1 := (hxx.frozens _ _ qs).trans qf1
                  have qs := Nat.lt_of_lt_of_le qs hxx.size
                  have HWN := Lib.hid (HWN.out.trans hxx)
                  clear hxx
                  obtain ⟨A9, c9, rfl, hc9, hs9, hD9⟩ := hO9.form
                  have hK : ∀ u, But w3.heap.size w9 (w9.setCell ⟨w3.heap.size, 1, none⟩ u) := fun u => (But.refl w3.heap.size w9).set (.inl rfl) u
                  have hs10 : SlAt (w9.setCell ⟨w3.heap.size, 1, none⟩ (.slice A9 dd.length c9)) A9 (u8v dd) := hs9.but (hK _) (fun x e => by have := hD9 x e; omega)
                  have JC := Rjcheck_any (x : Int) A9 c9 dd hdb hc9 (by rw [hdl]; omega) _ hs10
                  rw [hdl] at JC hO9 hc9 hrun
                  obtain ⟨ck, hck⟩ : ∃ ck, checkR pf (x : Int) dd = ck := ⟨_, rfl⟩
                  rw [hck] at JC
                  have y5 : (13 : Int) ≤ (E : Int) := by omega
                  have y6 : E - 13 = sz := by have := HEE.out; omega
                  have y7 : ¬ c = 13 := by omega
                  have y9 : 13 ≤ E := by omega
                  have RUN := Lib.hid hrun; have HJC := Lib.hid JC; have HO9 := Lib.hid hO9; have HCK := Lib.hid hck; have HDD := Lib.hid hdd; have HK := Lib.hid hK
                  clear hrun JC hO9 hck hdd hK hs10 hs9 hD9 hds hin2 hB9 hX9 hdb hdl hc9
                  go_wp2_with (at_builtin; refine wpList_append_run rfl (.tmp 85) (.tmp 88) 28 rfl _ _ rfl rfl RUN.out ?_)
                  refine HJC.out.mono ?_; rintro e10 w10 ⟨rfl, h10⟩
                  clear HJC
                  have hk9 := HK.out (.slice A9 sz c9)
                  have ts : (w9.setCell ⟨w3.heap.size, 1, none⟩ (.slice A9 sz c9)).heap.size = w9.heap.size := by simp
                  have r0 : w10.cell? ⟨w3.heap.size, 0, none⟩ = some (.int .i64 (x : Int)) := (h10.cells w3.heap.size 0 (by rw [ts]; exact rs9)).trans (by rw [World.cell?_setCell_other _ _ _ _ (by simp)]; exact r0)
                  have r1 := (h10.cells w3.heap.size 1 (by rw [ts]; exact rs9)).trans (World.cell?_setCell_same _ _ (.slice A9 sz c9) r1)
                  have rf0 : w10.frozen? ⟨w3.heap.size, 0, none⟩ = false := (h10.frozens w3.heap.size 0 (by rw [ts]; exact rs9)).trans (by rw [World.frozen?_setCell]; exact rf0)
                  have rf1 : w10.frozen? ⟨w3.heap.size, 1, none⟩ = false := (h10.frozens w3.heap.size 1 (by rw [ts]; exact rs9)).trans (by rw [World.frozen?_setCell]; exact rf1)
                  have rs10 : w3.heap.size < w10.heap.size := Nat.lt_of_lt_of_le (by rw [ts]; exact rs9) h10.size
                  have q0 := (h10.cells w.heap.size 0 (by rw [ts]; exact qs)).trans ((hk9.cells _ 0 qs rne).trans q0)
                  have q1 := (h10.cells w.heap.size 1 (by rw [ts]; exact qs)).trans ((hk9.cells _ 1 qs rne).trans q1)
                  have qf0 := (h10.frozens w.heap.size 0 (by rw [ts]; exact qs)).trans ((hk9.frozens _ 0 qs rne).trans qf0)
                  have qf1 := (h10.frozens w.heap.size 1 (by rw [ts]; exact qs)).trans ((hk9.frozens _ 1 qs rne).trans qf1)
                  have HWN := Lib.hid ((HWN.out.setCell (p := ⟨w3.heap.size, 1, none⟩) (by show w.heap.size ≤ w3.heap.size; omega) (.slice A9 sz c9)).trans h10)
                  have qs := Nat.lt_of_lt_of_le qs (by rw [← ts]; exact h10.size)
                  have H10 := Lib.hid h10; clear h10 ts hk9
                  by_cases hc0 : ck = 0
                  · have v3 : (ck != 0) = false := by rw [hc0]; rfl
                    have hwhy := Lib.hid (show whyV pf b n k = 0 by rw [why_rec H13.out HSE.out HF.out HSH.out HLE.out, HX.out, HSZ.out, HDD.out, HCK.out, if_neg (by rw [hc0]; decide)])
                    clear hc0
                    go_wp2
                    have hK10 : But w.heap.size w10 ((w10.setCell ⟨w.heap.size, 0, none⟩ (.int .i64 (x : Int))).setCell ⟨w.heap.size, 1, none⟩ (.slice A9 sz c9)) := ((But.refl w.heap.size w10).set (.inl rfl) _).set (.inl rfl) _
                    have hO10 := ((((HO9.out.but (HK.out (.slice A9 sz c9)) rs7).of H10.out).but hK10 qs7).less (Nat.le_of_lt qs7))
                    refine bodyPost_ret (v := .tuple #[.agg #[.int .i64 (x : Int), .slice A9 sz c9], .int .i64 ((E : Int) + 4), .int .u32 (nx : Int), .int .i64 0]) (by simp [results, Tryz.results45, go_sem, q0, q1, qf0, qf1, qs]) rfl (.inr ⟨hwhy.out, .slice A9 sz c9, ?_, ?_, ?_⟩)
                    · rw [HX.out, HEV.out, HNX.out]; rfl
                    · rw [HSZ.out, HDD.out]; exact hO10
                    · exact ((HWN.out.setCell (Nat.le_refl _) _).setCell (Nat.le_refl _) _)
                  · have v3 : (ck != 0) = true := bne_iff_ne.2 hc0
                    have HW := Lib.hid (show whyV pf b n k = 3 by rw [why_rec H13.out HSE.out HF.out HSH.out HLE.out, HX.out, HSZ.out, HDD.out, HCK.out, if_pos hc0])
                    clear hc0
                    go_wp2
                    refine bodyPost_ret (v := .tuple #[.agg #[.int .i64 0, .slice none 0 0], .int .i64 0, .int .u32 0, .int .i64 3]) (by simp [results, Tryz.results45, go_sem, q0, q1, qf0, qf1, qs]) rfl (TakePost.no HW.out (by decide) ?_)
                    have hwr := HWN.out
                    exact (by repeat (first | with_reducible exact Within.refl _ | with_reducible assumption | with_reducible refine Within.alloc ?_ _ | with_reducible refine Within.drew ?_ | with_reducible refine Within.drewN ?_ _ | with_reducible refine Within.setCell ?_ (by first | (simp; done) | (simp; omega)) _ | with_reducible refine Within.trans ?_ (by assumption)))
                · have v2 : ((s2 : Int) != (nx : Int)) = true := bne_iff_ne.2 (by omega)
                  have HW := Lib.hid (why_link (b := b) (n := n) (k := k) H13.out HSE.out HF.out HSH.out (by rw [HEV.out, HS2.out, HNX.out]; exact hlk))
                  clear hlk
                  go_wp2_with fail
                  refine (NBE.out _ (by exact HR7.out)).mono ?_; rintro e8 w8 ⟨rfl, rfl⟩
                  go_wp2
                  refine bodyPost_ret (v := .tuple #[.agg #[.int .i64 0, .slice none 0 0], .int .i64 0, .int .u32 0, .int .i64 4]) (by simp [results, Tryz.results45, go_sem, q0, q1, qf0, qf1, qs]) rfl (TakePost.no HW.out (by decide) ?_)
                  have hwr := HWN.out
                  exact (by repeat (first | with_reducible exact Within.refl _ | with_reducible assumption | with_reducible refine Within.alloc ?_ _ | with_reducible refine Within.drew ?_ | with_reducible refine Within.drewN ?_ _ | with_reducible refine Within.setCell ?_ (by first | (simp; done) | (simp; omega)) _ | with_reducible refine Within.trans ?_ (by assumption)))
        · have u1 : decide ((x : Int) < 1) = false := decide_eq_false (by omega)
          have u2 : decide ((x : Int) > 3) = false := decide_eq_false (by omega)
          have u3 : ((q : Int) != (n : Int)) = true := bne_iff_ne.2 (by omega)
          have HW := Lib.hid (why_form (b := b) (n := n) (k := k) H13.out HSE.out (by rw [HX.out, HQ.out, HSZ.out]; exact .inr (.inr (.inl x3))))
          go_wp2_with fail
          refine (NB5.out _ (by exact HR.out.of (by repeat (first | with_reducible exact Within.refl _ | with_reducible assumption | with_reducible refine Within.alloc ?_ _ | with_reducible refine Within.drew ?_ | with_reducible refine Within.drewN ?_ _ | with_reducible refine Within.setCell ?_ (by first | (simp; done) | (simp; omega)) _ | with_reducible refine Within.trans ?_ (by assumption))))).mono ?_; rintro e5 w5 ⟨rfl, rfl⟩
          go_wp2_with fail
          refine (NB1.out _ (by exact HR.out.of (by repeat (first | with_reducible exact Within.refl _ | with_reducible assumption | with_reducible refine Within.alloc ?_ _ | with_reducible refine Within.drew ?_ | with_reducible refine Within.drewN ?_ _ | with_reducible refine Within.setCell ?_ (by first | (simp; done) | (simp; omega)) _ | with_reducible refine Within.trans ?_ (by assumption))))).mono ?_; rintro e6 w6 ⟨rfl, rfl⟩
          go_wp2_with fail
          go_wp2
          refine bodyPost_ret (v := .tuple #[.agg #[.int .i64 0, .slice none 0 0], .int .i64 0, .int .u32 0, .int .i64 3]) (by simp [results, Tryz.results45, go_sem, q0, q1, qf0, qf1, qs]) rfl (TakePost.no HW.out (by decide) ?_)
          have hwr := HWN.out
          exact (by repeat (first | with_reducible exact Within.refl _ | with_reducible assumption | with_reducible refine Within.alloc ?_ _ | with_reducible refine Within.drew ?_ | with_reducible refine Within.drewN ?_ _ | with_reducible refine Within.setCell ?_ (by first | (simp; done) | (simp; omega)) _ | with_reducible refine Within.trans ?_ (by assumption)))
  · have n1 : ((s1 : Int) != (l1 : Int)) = true := bne_iff_ne.2 (by omega)
    have HW := Lib.hid (why_sum (b := b) (n := n) (k := k) H13.out (by rw [HS1.out, HL1.out]; exact hsum))
    clear hsum
    go_enter Tryz.func45, Tryz.ntmps45
    go_wp2_with fail
    rw [← hWT]
    clear hWT
    refine wp_region_schG (fun W => SlAt W (some ad) (u8v b) ∧ Within WT W ∧ W.cell? ⟨w.heap.size, 0, none⟩ = some (.int .i64 0) ∧ W.cell? ⟨w.heap.size, 1, none⟩ = some (.slice none 0 0) ∧ W.frozen? ⟨w.heap.size, 0, none⟩ = false ∧ W.frozen? ⟨w.heap.size, 1, none⟩ = false ∧ w.heap.size < W.heap.size) 8 (.firm 0 (.firm 1 (.firm 3 (.firm 4 (.firm 5 (.one 2 (.one 6 (.firm 7 (.one 8 .nil))))))))) (by kernel_rfl) (by kernel_rfl) ⟨HR.out, Within.refl _, q0, q1, qf0, qf1, qs⟩ ?_
    rintro w0 ⟨hls, hw0, q0, q1, qf0, qf1, qs⟩
    try simp only [Act.put, List.setIfInBounds_toArray, List.set_cons_zero, List.set_cons_succ]
    iterate 5
      apply sch_firm rfl rfl (by repeat (first | with_reducible exact Within.refl _ | with_reducible assumption | with_reducible refine Within.alloc ?_ _ | with_reducible refine Within.drew ?_ | with_reducible refine Within.drewN ?_ _ | with_reducible refine Within.setCell ?_ (by first | (simp; done) | (simp; omega)) _ | with_reducible refine Within.trans ?_ (by assumption)))
      · intro wq hq
        have hcq := hq.cells
        clear hq
        go_simp
        rfl
      try simp only [Act.put, List.setIfInBounds_toArray, List.set_cons_zero, List.set_cons_succ]
    refine sch_one rfl rfl (fun K hK => ?_)
    go_simp
    refine (NB9.out _ (by exact hls.of (by repeat (first | with_reducible exact Within.refl _ | with_reducible assumption | with_reducible refine Within.alloc ?_ _ | with_reducible refine Within.drew ?_ | with_reducible refine Within.drewN ?_ _ | with_reducible refine Within.setCell ?_ (by first | (simp; done) | (simp; omega)) _ | with_reducible refine Within.trans ?_ (by assumption))))).mono ?_; rintro e2 w2 ⟨rfl, rfl⟩
    refine hK _ _ (fun _ => (by repeat (first | with_reducible exact Within.refl _ | with_reducible assumption | with_reducible refine Within.alloc ?_ _ | with_reducible refine Within.drew ?_ | with_reducible refine Within.drewN ?_ _ | with_reducible refine Within.setCell ?_ (by first | (simp; done) | (simp; omega)) _ | with_reducible refine Within.trans ?_ (by assumption)))) ?_
    clear hK K
    try simp only [Act.put, List.setIfInBounds_toArray, List.set_cons_zero, List.set_cons_succ]
    refine sch_one rfl rfl (fun K hK => ?_)
    go_simp
    refine (SB9.out _ (by exact hls.of (by repeat (first | with_reducible exact Within.refl _ | with_reducible assumption | with_reducible refine Within.alloc ?_ _ | with_reducible refine Within.drew ?_ | with_reducible refine Within.drewN ?_ _ | with_reducible refine Within.setCell ?_ (by first | (simp; done) | (simp; omega)) _ | with_reducible refine Within.trans ?_ (by assumption))))).mono ?_; rintro e3 w3 ⟨rfl, h3⟩
    refine hK _ _ (fun _ => (by repeat (first | with_reducible exact Within.refl _ | with_reducible assumption | with_reducible refine Within.alloc ?_ _ | with_reducible refine Within.drew ?_ | with_reducible refine Within.drewN ?_ _ | with_reducible refine Within.setCell ?_ (by first | (simp; done) | (simp; omega)) _ | with_reducible refine Within.trans ?_ (by assumption)))) ?_
    clear hK K
    try simp only [Act.put, List.setIfInBounds_toArray, List.set_cons_zero, List.set_cons_succ]
    apply sch_firm rfl rfl (by repeat (first | with_reducible exact Within.refl _ | with_reducible assumption | with_reducible refine Within.alloc ?_ _ | with_reducible refine Within.drew ?_ | with_reducible refine Within.drewN ?_ _ | with_reducible refine Within.setCell ?_ (by first | (simp; done) | (simp; omega)) _ | with_reducible refine Within.trans ?_ (by assumption)))
    · intro wq hq
      have hcq := hq.cells
      clear hq
      go_simp
      rfl
    try simp only [Act.put, List.setIfInBounds_toArray, List.set_cons_zero, List.set_cons_succ]
    refine sch_one rfl rfl (fun K hK => ?_)
    go_simp
    refine hK _ _ (fun h => absurd h (by decide)) ?_
    clear hK K
    try simp only [Act.put, List.setIfInBounds_toArray, List.set_cons_zero, List.set_cons_succ]
    refine sch_nil ?_
    have HWN := Lib.hid (HWN.out.trans hw0)
    have hxx : Within w0 w3 := (by repeat (first | with_reducible exact Within.refl _ | with_reducible assumption | with_reducible refine Within.alloc ?_ _ | with_reducible refine Within.drew ?_ | with_reducible refine Within.drewN ?_ _ | with_reducible refine Within.setCell ?_ (by first | (simp; done) | (simp; omega)) _ | with_reducible refine Within.trans ?_ (by assumption)))
    have q0 := (hxx.cells _ _ qs).trans q0
    have q1 := (hxx.cells _ _ qs).trans q1
    have qf0 := (hxx.frozens _ _ qs).trans qf0
    have qf1 := (hxx.frozens _ _ qs).trans qf1
    have qs := Nat.lt_of_lt_of_le qs hxx.size
    have HWN := Lib.hid (HWN.out.trans hxx)
    clear hxx
    have HR : Hid (SlAt w3 (some ad) (u8v b)) := Lib.hid (hls.of (by repeat (first | with_reducible exact Within.refl _ | with_reducible assumption | with_reducible refine Within.alloc ?_ _ | with_reducible refine Within.drew ?_ | with_reducible refine Within.drewN ?_ _ | with_reducible refine Within.setCell ?_ (by first | (simp; done) | (simp; omega)) _ | with_reducible refine Within.trans ?_ (by assumption))))
    clear h3 hls hw0
    go_wp2
    refine bodyPost_ret (v := .tuple #[.agg #[.int .i64 0, .slice none 0 0], .int .i64 0, .int .u32 0, .int .i64 4]) (by simp [results, Tryz.results45, go_sem, q0, q1, qf0, qf1, qs]) rfl (TakePost.no HW.out (by decide) ?_)
    have hwr := HWN.out
    exact (by repeat (first | with_reducible exact Within.refl _ | with_reducible assumption | with_reducible refine Within.alloc ?_ _ | with_reducible refine Within.drew ?_ | with_reducible refine Within.drewN ?_ _ | with_reducible refine Within.setCell ?_ (by first | (simp; done) | (simp; omega)) _ | with_reducible refine Within.trans ?_ (by assumption)))
end Go.Proofs.YtpmjlaiafgbjgaaGreatDoor
end

section
namespace Go.Proofs.YtpmjlaiafgbjgaaGreatDoor
variable {F : Fl}
theorem readV_log {l : List Rec} (h : ∀ r ∈ l, r.Ok F) (hn : l.length ≤ 1048576) : readV F (laidV l 0 startV) 0 startV = (l, 0, (laidV l 0 startV).length, lastV l 0 startV) := by
  have := readV_laid l 0 startV [] h (by omega)
  rw [List.append_nil, readV_nil, List.append_nil] at this
  rw [this, Nat.zero_add]
theorem startV_lt : startV < 4294967296 := by decide +kernel
theorem laidV_bytes : ∀ {l : List Rec} (n last : Nat), (∀ r ∈ l, r.Ok F) → Bytes (laidV l n last)
  | [], _, _, _ => fun c hc => by cases hc
  | r :: l, n, last, h => (layV_bytes (h r (by simp)) n last).append (laidV_bytes _ _ fun r hr => h r (by simp [hr]))
/-! one byte turned -/
theorem whyV_sums {b : List Nat} {n last : Nat} (h : whyV F b n last = 0) : 13 ≤ b.length ∧ at4 b 9 = linkV last (b.take 9) ∧ endV b + 4 ≤ b.length ∧ at4 b (endV b) = linkV last (b.take (endV b)) ∧ at4 b 1 = n := by
  unfold whyV at h
  by_cases c1 : b.length < 13
  · rw [if_pos c1] at h; cases h
  rw [if_neg c1] at h
  by_cases c2 : at4 b 9 ≠ linkV last (b.take 9)
  · rw [if_pos c2] at h; cases h
  rw [if_neg c2] at h
  by_cases c3 : b.getD 0 0 < 1 ∨ 3 < b.getD 0 0 ∨ at4 b 1 ≠ n ∨ 1048576 < at4 b 5 ∨ 1048576 ≤ n
  · rw [if_pos c3] at h; cases h
  rw [if_neg c3] at h
  by_cases c4 : b.length < endV b + 4
  · rw [if_pos c4] at h; cases h
  rw [if_neg c4] at h
  by_cases c5 : at4 b (endV b) ≠ linkV last (b.take (endV b))
  · rw [if_pos c5] at h; cases h
  simp only [ne_eq, Decidable.not_not] at c2 c5
  exact ⟨by omega, c2, by omega, c5, by omega⟩
end Go.Proofs.YtpmjlaiafgbjgaaGreatDoor
end

section
namespace Go.Proofs.YtpmjlaiafgbjgaaGreatDoor
open Go.RowKit
theorem magic_str : strB magicV = ⟨#[66, 73, 78, 76, 79, 71, 49, 10]⟩ := by kernel_rfl
theorem magic_list : (strB magicV).toList = [66, 73, 78, 76, 79, 71, 49, 10] := by rw [magic_str]; simp
theorem magic_bytes : Bytes magicV := by intro x hx; revert x; decide
def ReadP (w : World) (bv : Value) (b : List Nat) (w' : World) (rb : Nat) : Prop := ∃ lv, w.heap.size ≤ rb ∧ NxC w' rb bv (8 + (readV pf (b.drop 8) 0 startV).2.2.1) (readV pf (b.drop 8) 0 startV).2.2.2 lv ∧ RecsO w' w.heap.size lv ((readV pf (b.drop 8) 0 startV).1.map Rec.i) ∧ Within w w'
def ReadRel (w : World) (B rb : Nat) (bv : Value) (b : List Nat) (wr : World) : Prop := ∃ (a k : Nat) (rs : List Rec) (lv : Value), NxC wr rb bv a k lv ∧ RecsO wr B lv (rs.map Rec.i) ∧ Within w wr ∧ B ≤ wr.heap.size ∧ a ≤ b.length ∧ 8 ≤ a ∧ k < 4294967296 ∧ rs.length ≤ 1048576 ∧
  readV pf (b.drop 8) 0 startV = (rs ++ (readV pf (b.drop a) rs.length k).1, (readV pf (b.drop a) rs.length k).2.1, (a - 8) + (readV pf (b.drop a) rs.length k).2.2.1, (readV pf (b.drop a) rs.length k).2.2.2)
theorem ReadRel.start {w W : World} {B rb : Nat} {bv : Value} {b : List Nat} (h8 : 8 ≤ b.length) (h : NxC W rb bv 8 startV (.slice none 0 0)) (hW : Within w W) (hB : B ≤ W.heap.size) : ReadRel w B rb bv b W :=
  ⟨8, startV, [], _, h, RecsO.nil_ _ _, hW, hB, h8, Nat.le_refl _, startV_lt, by simp, by simp⟩
theorem ReadRel.more {w wr w' : World} {B rb a k : Nat} {rs : List Rec} {bv lv : Value} {b : List Nat} (hb : Bytes b) (hwr : Within w wr) (hw : w.heap.size ≤ rb) (hrB : rb < B) (ha : a ≤ b.length) (h8 : 8 ≤ a)
    (hv : readV pf (b.drop 8) 0 startV = (rs ++ (readV pf (b.drop a) rs.length k).1, (readV pf (b.drop a) rs.length k).2.1, (a - 8) + (readV pf (b.drop a) rs.length k).2.2.1, (readV pf (b.drop a) rs.length k).2.2.2))
    (hB : B ≤ wr.heap.size) (hy : whyV pf (b.drop a) rs.length k = 0) (h1 : NxC w' rb bv (a + (endV (b.drop a) + 4)) (linkV k ((b.drop a).take (endV (b.drop a)))) lv) (h2 : RecsO w' B lv ((rs ++ [recV (b.drop a)]).map Rec.i)) (h3 : ButS (fun j => j = rb ∨ B ≤ j) wr w') :
    ReadRel w B rb bv b w' ∧ a + (endV (b.drop a) + 4) ≤ b.length := by
  obtain ⟨s1, s2, s3, s4⟩ := whyV_sums hy
  have hn : rs.length < 1048576 := by
    by_cases h : 1048576 ≤ rs.length
    · have := why_form (b := b.drop a) (n := rs.length) (k := k) (by omega) (fun e => e s2) (.inr (.inr (.inr (.inr h))))
      rw [this] at hy; cases hy
    · omega
  have hl : (b.drop a).length = b.length - a := List.length_drop
  refine ⟨⟨a + (endV (b.drop a) + 4), _, rs ++ [recV (b.drop a)], lv, h1, h2, hwr.asides h3 (fun j hj => by rcases hj with rfl | hj; exact hw; omega), Nat.le_trans hB h3.size, by omega, by omega, linkV_lt ((hb.drop a).take _), by simp; omega, ?_⟩, by omega⟩
  rw [hv, readV_rec hy, List.drop_drop, List.length_append]
  simp only [List.append_assoc, List.singleton_append, List.length_cons, List.length_nil, Prod.mk.injEq, true_and]
  have e : a + (endV (b.drop a) + 4) - 8 = a - 8 + (endV (b.drop a) + 4) := by omega
  rw [e]
  refine ⟨?_, trivial⟩
  rw [Nat.zero_add]
  omega
theorem NextPost.split {w w' : World} {rb B : Nat} {bv : Value} {left : List Nat} {a k : Nat} {rs : List Rec} {e : Ending} (h : NextPost w rb B bv left a k rs e w') :
    (∃ y : Nat, readV pf left rs.length k = ([], y, 0, k) ∧ e = .returned (.tuple #[.int .i64 (y : Int), .bool false]) ∧ Within w w') ∨
    (whyV pf left rs.length k = 0 ∧ e = .returned (.tuple #[.int .i64 0, .bool true]) ∧ ∃ lv, NxC w' rb bv (a + (endV left + 4)) (linkV k (left.take (endV left))) lv ∧ RecsO w' B lv ((rs ++ [recV left]).map Rec.i) ∧ ButS (fun j => j = rb ∨ B ≤ j) w w') := by
  rcases h with ⟨rfl, h1, h2⟩ | ⟨h0, h1, h2, h3⟩ | h
  · exact .inl ⟨0, readV_nil _ _, h1, h2⟩
  · exact .inl ⟨_, readV_why h0 h1, h2, h3⟩
  · exact .inr h
theorem NxC.aside {w : World} {rb : Nat} {bv : Value} {a k : Nat} {lv : Value} (h : NxC w rb bv a k lv) {p : Addr} (hp : rb ≠ p.block) (u : Value) : NxC (w.setCell p u) rb bv a k lv := by
  obtain ⟨h0, h1, h2, h3, h4⟩ := h
  have e : (w.setCell p u).heap[rb]? = w.heap[rb]? := Below.heap_setCell _ _ _ _ hp
  exact ⟨(World.cell?_of_block e).trans h0, (World.cell?_of_block e).trans h1, (World.cell?_of_block e).trans h2, (World.cell?_of_block e).trans h3, fun o => (World.frozen?_of_block e).trans (h4 o)⟩
theorem ReadP.done {w w' : World} {B rb a k y : Nat} {rs : List Rec} {bv lv : Value} {b : List Nat}
    (hv : readV pf (b.drop 8) 0 startV = (rs ++ (readV pf (b.drop a) rs.length k).1, (readV pf (b.drop a) rs.length k).2.1, (a - 8) + (readV pf (b.drop a) rs.length k).2.2.1, (readV pf (b.drop a) rs.length k).2.2.2))
    (hy : readV pf (b.drop a) rs.length k = ([], y, 0, k)) (h8 : 8 ≤ a) (hC : NxC w' rb bv a k lv) (hL : RecsO w' B lv (rs.map Rec.i)) (hw : w.heap.size ≤ rb) (hB : w.heap.size ≤ B) (hin : Within w w') :
    (readV pf (b.drop 8) 0 startV).2.1 = y ∧ 8 + (readV pf (b.drop 8) 0 startV).2.2.1 = a ∧ ReadP w bv b w' rb := by
  rw [hy] at hv
  have e : 8 + (a - 8 + 0) = a := by omega
  unfold ReadP
  rw [hv]
  simp only [e, List.append_nil]
  exact ⟨trivial, trivial, lv, hw, hC, hL.less hB, hin⟩
set_option maxRecDepth 100000 in
set_option maxHeartbeats 1000000 in
theorem read_any (A : Option Addr) (c : Nat) (b : List Nat) (hb : Bytes b) (hlen : b.length ≤ 140737488355328) (hc : b.length ≤ c) (w : World) (hT : FmS w) (hr : SlAt w A (u8v b)) : Calls Tryz.prog 35 #[.slice A b.length c] w fun e w' => (b.take 8 ≠ magicV ∧ e = .returned (.tuple #[.pointer none, .agg #[.int .i64 1, .int .i64 0]]) ∧ Within w w') ∨ (b.take 8 = magicV ∧ ∃ rb, e = .returned (.tuple #[.pointer (some ⟨rb, 0, none⟩), .agg #[.int .i64 ((readV pf (b.drop 8) 0 startV).2.1 : Int), .int .i64 ((8 + (readV pf (b.drop 8) 0 startV).2.2.1 : Nat) : Int)]]) ∧ ReadP w (.slice A b.length c) b w' rb) := by
  have hr8 := hr.take 8
  have HB := Lib.hid hb; have HT := Lib.hid hT; have HR := Lib.hid hr; clear hb hT hr
  by_cases h8 : b.length < 8
  · have HN : Hid (b.take 8 ≠ magicV) := Lib.hid (fun h => by have := congrArg List.length h; rw [List.length_take] at this; have e : magicV.length = 8 := rfl; omega)
    have v0 : decide ((b.length : Int) < 8) = true := decide_eq_true (by omega)
    clear h8 hr8
    go_enter Tryz.func35, Tryz.ntmps35
    go_wp2
    refine wp_scope_straight ?_
    go_wp2
    rw [Exit.noGoto_ret]
    refine bodyPost_ret (v := .tuple #[.pointer none, .agg #[.int .i64 1, .int .i64 0]]) (by simp [results, Tryz.results35, go_sem]) rfl (.inl ⟨HN.out, rfl, ?_⟩)
    exact (by repeat (first | with_reducible exact Within.refl _ | with_reducible assumption | with_reducible refine Within.alloc ?_ _ | with_reducible refine Within.drew ?_ | with_reducible refine Within.drewN ?_ _ | with_reducible refine Within.setCell ?_ (by first | (simp; done) | (simp; omega)) _ | with_reducible refine Within.trans ?_ (by assumption)))
  have l8 : (b.take 8).length = 8 := by rw [List.length_take]; omega
  obtain ⟨s, hs⟩ : ∃ s, s = strB (b.take 8) := ⟨_, rfl⟩
  have ST : Hid (∀ W, SlAt W A (u8v (b.take 8)) → (convert 28 9 (.slice A 8 c)).run Tryz.prog W = .ok (.string s) W) := Lib.hid (fun W h => by rw [hs]; have := run_str A c (b.take 8) W h; rwa [l8] at this)
  have HR8 : Hid (SlAt w A (u8v (b.take 8))) := Lib.hid (by unfold u8v at hr8 ⊢; rwa [← List.map_take] at hr8)
  clear hr8
  have v0 : decide ((b.length : Int) < 8) = false := decide_eq_false (by omega)
  have b8 : (8 : Int) ≤ (b.length : Int) := by omega
  have c8 : (8 : Int) ≤ (c : Int) := by omega
  have n8 : 8 ≤ b.length := by omega
  have m8 : 8 ≤ c := by omega
  have bc : (b.length : Int) ≤ (c : Int) := by omega
  have st0 := ST.out _ (HR8.out.of ((Within.refl w).alloc (.cells #[.int .i64 0, .int .i64 0] 42)))
  clear h8
  by_cases hm : b.take 8 = magicV
  · have hne : (s.toList == [66, 73, 78, 76, 79, 71, 49, 10]) = true := by rw [← magic_list, hs, hm]; simp
    have HM := Lib.hid hm; clear hm hs
    go_enter Tryz.func35, Tryz.ntmps35
    go_wp2
    refine wp_scope_straight ?_
    go_wp2_with fail
    refine (begin_any _).mono ?_; rintro e1 w1 ⟨rfl, h1⟩
    go_wp2_with fail
    go_step3
    go_wp2_with fail
    obtain ⟨ad, rfl, _, _⟩ := SlAt.at (l := b) (k := 0) (by exact HR.out) (by omega)
    obtain ⟨WT, hWT⟩ : ∃ WT, WT = w.alloc (.cells #[.int .i64 0, .int .i64 0] 42) := ⟨_, rfl⟩
    have q0 : WT.cell? ⟨w.heap.size, 0, none⟩ = some (.int .i64 0) := by rw [hWT]; simp
    have q1 : WT.cell? ⟨w.heap.size, 1, none⟩ = some (.int .i64 0) := by rw [hWT]; simp
    have qf : ∀ o, WT.frozen? ⟨w.heap.size, o, none⟩ = false := fun o => by rw [hWT]; simp
    have hWW0 : Within w WT := by rw [hWT]; exact (Within.refl w).alloc _
    have qs : w.heap.size < WT.heap.size := by rw [hWT]; simp
    rw [← hWT] at h1
    clear hWT
    obtain ⟨W1, hWW⟩ : ∃ W1, W1 = w1.alloc (.cells #[.slice (some ad) b.length c, .int .i64 8, .int .u32 (startV : Int), .slice none 0 0] 86) := ⟨_, rfl⟩
    have HNX : NxC W1 w1.heap.size (.slice (some ad) b.length c) 8 startV (.slice none 0 0) := by rw [hWW]; exact ⟨by simp, by simp, by simp, by simp, fun o => by simp⟩
    have HW1 : Within WT W1 := by rw [hWW]; exact h1.alloc _
    have hS1 : W1.heap.size = w1.heap.size + 1 := by rw [hWW]; simp
    rw [← hWW]
    clear hWW
    obtain ⟨rb, hrb⟩ : ∃ rb, rb = w1.heap.size := ⟨_, rfl⟩
    rw [← hrb] at HNX hS1 ⊢
    have hwrb : WT.heap.size ≤ rb := by rw [hrb]; exact h1.size
    have HREL := Lib.hid (ReadRel.start (w := WT) (B := rb + 1) n8 HNX HW1 (by omega))
    have HWW0 := Lib.hid hWW0; have QF := Lib.hid qf
    clear h1 HW1 hrb HNX hWW0 qf st0
    go_loopw [5] (fun _ wr => ReadRel WT (rb + 1) rb (.slice (some ad) b.length c) b wr) (fun _ wr => b.length - (intOf ((wr.cell? ⟨rb, 1, none⟩).getD undef)).toNat)
    case atStart => exact HREL.out
    case round =>
      obtain ⟨a, k, rs, lv, hC, hL, hin, hB, ha, ha8, hk, hrs, hv⟩ := hrel
      have p1 := hC.2.1
      have NXT := Lib.hid (next_any rb (rb + 1) ad c b HB.out a k rs hlen hc ha hk hrs (by omega) lv _ hB (HT.out.of (HWW0.out.trans hin)) hC hL (HR.out.of (HWW0.out.trans hin)))
      have HC := Lib.hid hC; have HL := Lib.hid hL; have HIN := Lib.hid hin; have HV := Lib.hid hv; clear hC hL hin hv
      go_wp2_with fail
      refine NXT.out.mono ?_; rintro e4 w4 hP
      clear NXT
      rcases hP.split with ⟨y, hy, rfl, h4⟩ | ⟨hy, rfl, lv', hC', hL', hS'⟩
      · clear hP
        have p1 := (h4.cells rb 1 (HC.out.lt)).trans p1
        have hrb4 := Nat.lt_of_lt_of_le HC.out.lt h4.size
        have q0 := ((HIN.out.trans h4).cells _ 0 qs).trans q0
        have q1 := ((HIN.out.trans h4).cells _ 1 qs).trans q1
        have qs4 := Nat.lt_of_lt_of_le qs (HIN.out.trans h4).size
        have q2 := ((HIN.out.trans h4).frozens _ 0 qs).trans (QF.out 0)
        have q3 := ((HIN.out.trans h4).frozens _ 1 qs).trans (QF.out 1)
        have HY := Lib.hid hy; have H4 := Lib.hid h4; clear hy h4
        go_wp2_with fail
        refine wp_region_schG (fun W => W.cell? ⟨rb, 1, none⟩ = some (.int .i64 (a : Int)) ∧ rb < W.heap.size ∧ W.cell? ⟨w.heap.size, 0, none⟩ = some (.int .i64 0) ∧ W.cell? ⟨w.heap.size, 1, none⟩ = some (.int .i64 0) ∧ w.heap.size < W.heap.size ∧ W.frozen? ⟨w.heap.size, 0, none⟩ = false ∧ W.frozen? ⟨w.heap.size, 1, none⟩ = false ∧ Within w4 W) 8 (.firm 0 (.firm 1 (.firm 2 (.firm 3 (.firm 4 (.firm 5 (.firm 6 (.firm 7 (.one 8 .nil))))))))) (by kernel_rfl) (by kernel_rfl) ⟨p1, hrb4, q0, q1, qs4, q2, q3, Within.refl _⟩ ?_
        rintro w0 ⟨p1, hrb4, q0, q1, qs4, q2, q3, hw0⟩
        try simp only [Act.put, List.setIfInBounds_toArray, List.set_cons_zero, List.set_cons_succ]
        iterate 8
          apply sch_firm rfl rfl (by repeat (first | with_reducible exact Within.refl _ | with_reducible assumption | with_reducible refine Within.alloc ?_ _ | with_reducible refine Within.drew ?_ | with_reducible refine Within.drewN ?_ _ | with_reducible refine Within.setCell ?_ (by first | (simp; done) | (simp; omega)) _ | with_reducible refine Within.trans ?_ (by assumption)))
          · intro wq hq
            have hcq := hq.cells
            clear hq
            go_simp
            rfl
          try simp only [Act.put, List.setIfInBounds_toArray, List.set_cons_zero, List.set_cons_succ]
        refine sch_one rfl rfl (fun K hK => ?_)
        go_simp
        refine hK _ _ (fun h => absurd h (by decide)) ?_
        clear hK K
        try simp only [Act.put, List.setIfInBounds_toArray, List.set_cons_zero, List.set_cons_succ]
        refine sch_nil ?_
        go_wp2
        have hX := H4.out.trans hw0
        have hXT := HIN.out.trans hX
        have hd : ∀ (V : World), Within V V.drew := fun V => (Within.refl V).drew
        have hC9 := (((HC.out.of hX).aside (p := ⟨w.heap.size, 0, none⟩) (by show rb ≠ w.heap.size; omega) (.int .i64 (y : Int))).aside (p := ⟨w.heap.size, 1, none⟩) (by show rb ≠ w.heap.size; omega) (.int .i64 (a : Int))).of (hd _)
        have hK9 : But w.heap.size w0 (((w0.setCell ⟨w.heap.size, 0, none⟩ (.int .i64 (y : Int))).setCell ⟨w.heap.size, 1, none⟩ (.int .i64 (a : Int))).drew) := (((But.refl w.heap.size w0).set (.inl rfl) _).set (.inl rfl) _).drew
        have hL9 := (HL.out.of hX).but hK9 (by omega)
        have hI9 : Within w (((w0.setCell ⟨w.heap.size, 0, none⟩ (.int .i64 (y : Int))).setCell ⟨w.heap.size, 1, none⟩ (.int .i64 (a : Int))).drew) := ((((HWW0.out.trans hXT).setCell (Nat.le_refl _) _).setCell (Nat.le_refl _) _).drew)
        obtain ⟨e1, e2, hP9⟩ := ReadP.done (w := w) HV.out HY.out ha8 hC9 hL9 (by omega) (by omega) hI9
        rw [Exit.noGoto_ret]
        refine bodyPost_ret (v := .tuple #[.pointer (some ⟨rb, 0, none⟩), .agg #[.int .i64 (y : Int), .int .i64 (a : Int)]]) (by simp [results, Tryz.results35, go_sem, q0, q1, q2, q3, qs4]) rfl (.inr ⟨HM.out, rb, ?_, hP9⟩)
        rw [e1, e2]
      · clear hP
        obtain ⟨hrel, hle⟩ := ReadRel.more HB.out HIN.out hwrb (by omega) ha ha8 HV.out hB hy hC' hL' hS'
        have p4 := hC'.2.1
        have HREL' := Lib.hid hrel; clear hrel hy hC' hL' hS'
        go_wp2_with fail
        go_round
        case rel => exact HREL'.out
        case measure => rw [p1, p4]; simp only [Option.getD_some, intOf]; omega
  · have hne : (s.toList == [66, 73, 78, 76, 79, 71, 49, 10]) = false := by rw [← magic_list, beq_eq_false_iff_ne]; exact fun e => hm (strB_inj (HB.out.take 8) magic_bytes (by rw [← hs]; exact e))
    have HN := Lib.hid hm; clear hm hs
    go_enter Tryz.func35, Tryz.ntmps35
    go_wp2
    refine wp_scope_straight ?_
    go_wp2
    rw [Exit.noGoto_ret]
    refine bodyPost_ret (v := .tuple #[.pointer none, .agg #[.int .i64 1, .int .i64 0]]) (by simp [results, Tryz.results35, go_sem]) rfl (.inl ⟨HN.out, rfl, ?_⟩)
    exact (by repeat (first | with_reducible exact Within.refl _ | with_reducible assumption | with_reducible refine Within.alloc ?_ _ | with_reducible refine Within.drew ?_ | with_reducible refine Within.drewN ?_ _ | with_reducible refine Within.setCell ?_ (by first | (simp; done) | (simp; omega)) _ | with_reducible refine Within.trans ?_ (by assumption)))
end Go.Proofs.YtpmjlaiafgbjgaaGreatDoor
end

section
namespace Go.Proofs.YtpmjlaiafgbjgaaGreatDoor
open Go.RowKit
def logRead (b : List Nat) : List Rec × Nat × Nat := if b.take 8 = magicV then ((readV pf (b.drop 8) 0 startV).1, (readV pf (b.drop 8) 0 startV).2.1, 8 + (readV pf (b.drop 8) 0 startV).2.2.1) else ([], 1, 0)
theorem logRead_no {b : List Nat} (h : b.take 8 ≠ magicV) : logRead b = ([], 1, 0) := if_neg h
theorem logRead_yes {b : List Nat} (h : b.take 8 = magicV) : logRead b = ((readV pf (b.drop 8) 0 startV).1, (readV pf (b.drop 8) 0 startV).2.1, 8 + (readV pf (b.drop 8) 0 startV).2.2.1) := if_pos h
set_option maxRecDepth 100000 in
set_option maxHeartbeats 1000000 in
theorem Read_any (A : Option Addr) (c : Nat) (b : List Nat) (hb : Bytes b) (hlen : b.length ≤ 140737488355328) (hc : b.length ≤ c) (w : World) (hT : FmS w) (hr : SlAt w A (u8v b)) : Calls Tryz.prog 18 #[.slice A b.length c] w fun e w' => ∃ lv, e = .returned (.tuple #[lv, .agg #[.int .i64 ((logRead b).2.1 : Int), .int .i64 ((logRead b).2.2 : Int)]]) ∧ RecsO w' w.heap.size lv ((logRead b).1.map Rec.i) ∧ Within w w' := by
  have RDA := Lib.hid (read_any A c b hb hlen hc (w.alloc (.cells #[.int .i64 0, .int .i64 0] 42)) (hT.of ((Within.refl w).alloc _)) (hr.of ((Within.refl w).alloc _)))
  clear hb hT hr
  obtain ⟨⟨rs, y, a⟩, hlr⟩ : ∃ t, logRead b = t := ⟨_, rfl⟩
  rw [hlr]
  have HLR := Lib.hid hlr; clear hlr
  go_enter Tryz.func18, Tryz.ntmps18
  go_wp2_with fail
  refine RDA.out.mono ?_; rintro e1 w1 hP
  clear RDA
  rcases hP with ⟨hn, rfl, h1⟩ | ⟨hm, rb, rfl, hP⟩
  · obtain ⟨rfl, rfl, rfl⟩ : rs = [] ∧ y = 1 ∧ a = 0 := by have := HLR.out; rw [logRead_no hn] at this; simp only [Prod.mk.injEq] at this; exact ⟨this.1.symm, this.2.1.symm, this.2.2.symm⟩
    clear hn HLR
    have hWT : Within w (w.alloc (.cells #[.int .i64 0, .int .i64 0] 42)) := (Within.refl w).alloc _
    have q0 : w1.cell? ⟨w.heap.size, 0, none⟩ = some (.int .i64 0) := (h1.cells _ _ (by simp)).trans (by simp)
    have q1 : w1.cell? ⟨w.heap.size, 1, none⟩ = some (.int .i64 0) := (h1.cells _ _ (by simp)).trans (by simp)
    have qf0 : w1.frozen? ⟨w.heap.size, 0, none⟩ = false := (h1.frozens _ _ (by simp)).trans (by simp)
    have qf1 : w1.frozen? ⟨w.heap.size, 1, none⟩ = false := (h1.frozens _ _ (by simp)).trans (by simp)
    have qs : w.heap.size < w1.heap.size := Nat.lt_of_lt_of_le (by simp) h1.size
    have H1 := Lib.hid h1; clear h1
    go_wp2
    have hA : Within w1 (w1.alloc (.cells #[.int .i64 1, .int .i64 0] 42)) := (Within.refl w1).alloc _
    have a0 : (w1.alloc (.cells #[.int .i64 1, .int .i64 0] 42)).cell? ⟨w1.heap.size, 0, none⟩ = some (.int .i64 1) := by simp
    have a1 : (w1.alloc (.cells #[.int .i64 1, .int .i64 0] 42)).cell? ⟨w1.heap.size, 1, none⟩ = some (.int .i64 0) := by simp
    have a2 : w1.heap.size < (w1.alloc (.cells #[.int .i64 1, .int .i64 0] 42)).heap.size := by simp
    have qne : ¬ w.heap.size = w1.heap.size := by omega
    refine wp_region_schG (fun W => W.cell? ⟨w.heap.size, 0, none⟩ = some (.int .i64 0) ∧ W.cell? ⟨w.heap.size, 1, none⟩ = some (.int .i64 0) ∧ W.cell? ⟨w1.heap.size, 0, none⟩ = some (.int .i64 1) ∧ W.cell? ⟨w1.heap.size, 1, none⟩ = some (.int .i64 0) ∧ w.heap.size < W.heap.size ∧ w1.heap.size < W.heap.size ∧ W.frozen? ⟨w.heap.size, 0, none⟩ = false ∧ W.frozen? ⟨w.heap.size, 1, none⟩ = false ∧ Within w1 W) 2 (.firm 0 (.firm 1 (.one 2 .nil))) (by kernel_rfl) (by kernel_rfl) ⟨(hA.cells _ 0 qs).trans q0, (hA.cells _ 1 qs).trans q1, a0, a1, Nat.lt_of_lt_of_le qs hA.size, a2, (hA.frozens _ 0 qs).trans qf0, (hA.frozens _ 1 qs).trans qf1, hA⟩ ?_
    rintro w0 ⟨q0, q1, p0, p1, qs, ps, qf0, qf1, hw0⟩
    try simp only [Act.put, List.setIfInBounds_toArray, List.set_cons_zero, List.set_cons_succ]
    iterate 2
      apply sch_firm rfl rfl (by repeat (first | with_reducible exact Within.refl _ | with_reducible assumption | with_reducible refine Within.alloc ?_ _ | with_reducible refine Within.drew ?_ | with_reducible refine Within.drewN ?_ _ | with_reducible refine Within.setCell ?_ (by first | (simp; done) | (simp; omega)) _ | with_reducible refine Within.trans ?_ (by assumption)))
      · intro wq hq
        have hcq := hq.cells
        clear hq
        go_simp
        rfl
      try simp only [Act.put, List.setIfInBounds_toArray, List.set_cons_zero, List.set_cons_succ]
    refine sch_one rfl rfl (fun K hK => ?_)
    go_simp
    refine hK _ _ (fun h => absurd h (by decide)) ?_
    clear hK K
    try simp only [Act.put, List.setIfInBounds_toArray, List.set_cons_zero, List.set_cons_succ]
    refine sch_nil ?_
    go_wp2
    have hX : Within w w0 := (Within.trans ((Within.refl w).alloc _) (H1.out.trans hw0))
    have hK9 : But w.heap.size w0 (((w0.setCell ⟨w.heap.size, 0, none⟩ (.int .i64 1)).setCell ⟨w.heap.size, 1, none⟩ (.int .i64 0)).drew) := (((But.refl w.heap.size w0).set (.inl rfl) _).set (.inl rfl) _).drew
    have hI9 : Within w (((w0.setCell ⟨w.heap.size, 0, none⟩ (.int .i64 1)).setCell ⟨w.heap.size, 1, none⟩ (.int .i64 0)).drew) := (((hX.setCell (Nat.le_refl _) _).setCell (Nat.le_refl _) _).drew)
    refine bodyPost_ret (v := .tuple #[.slice none 0 0, .agg #[.int .i64 1, .int .i64 0]]) (by simp [results, Tryz.results18, go_sem, q0, q1, qf0, qf1, qs]) rfl ⟨_, rfl, RecsO.nil_ _ _, hI9⟩
  · obtain ⟨lv, hwrb, hC, hL, h1⟩ := hP
    obtain ⟨hrs, hy, ha⟩ : (readV pf (b.drop 8) 0 startV).1 = rs ∧ (readV pf (b.drop 8) 0 startV).2.1 = y ∧ 8 + (readV pf (b.drop 8) 0 startV).2.2.1 = a := by have := HLR.out; rw [logRead_yes hm] at this; simpa only [Prod.mk.injEq] using this
    obtain ⟨k, hk⟩ : ∃ k, (readV pf (b.drop 8) 0 startV).2.2.2 = k := ⟨_, rfl⟩
    rw [hy, ha]
    rw [ha, hk] at hC
    rw [hrs] at hL
    clear hy ha hrs hk hm HLR
    have hWT : Within w (w.alloc (.cells #[.int .i64 0, .int .i64 0] 42)) := (Within.refl w).alloc _
    have q0 : w1.cell? ⟨w.heap.size, 0, none⟩ = some (.int .i64 0) := (h1.cells _ _ (by simp)).trans (by simp)
    have q1 : w1.cell? ⟨w.heap.size, 1, none⟩ = some (.int .i64 0) := (h1.cells _ _ (by simp)).trans (by simp)
    have qf0 : w1.frozen? ⟨w.heap.size, 0, none⟩ = false := (h1.frozens _ _ (by simp)).trans (by simp)
    have qf1 : w1.frozen? ⟨w.heap.size, 1, none⟩ = false := (h1.frozens _ _ (by simp)).trans (by simp)
    have qs : w.heap.size < w1.heap.size := Nat.lt_of_lt_of_le (by simp) h1.size
    have p3 := hC.2.2.2.1
    have hrb1 := hC.lt
    have H1 := Lib.hid h1; have HC := Lib.hid hC; have HL := Lib.hid hL; clear h1 hC hL
    obtain ⟨Al, cl, rfl, hx5, hx6, hx7, hx8⟩ := HL.out.at
    clear hx5 hx6 hx7 hx8
    go_wp2
    have hA : Within w1 (w1.alloc (.cells #[.int .i64 (y : Int), .int .i64 (a : Int)] 42)) := (Within.refl w1).alloc _
    have a0 : (w1.alloc (.cells #[.int .i64 (y : Int), .int .i64 (a : Int)] 42)).cell? ⟨w1.heap.size, 0, none⟩ = some (.int .i64 (y : Int)) := by simp
    have a1 : (w1.alloc (.cells #[.int .i64 (y : Int), .int .i64 (a : Int)] 42)).cell? ⟨w1.heap.size, 1, none⟩ = some (.int .i64 (a : Int)) := by simp
    have a2 : w1.heap.size < (w1.alloc (.cells #[.int .i64 (y : Int), .int .i64 (a : Int)] 42)).heap.size := by simp
    have qne : ¬ w.heap.size = w1.heap.size := by omega
    refine wp_region_schG (fun W => W.cell? ⟨w.heap.size, 0, none⟩ = some (.int .i64 0) ∧ W.cell? ⟨w.heap.size, 1, none⟩ = some (.int .i64 0) ∧ W.cell? ⟨w1.heap.size, 0, none⟩ = some (.int .i64 (y : Int)) ∧ W.cell? ⟨w1.heap.size, 1, none⟩ = some (.int .i64 (a : Int)) ∧ w.heap.size < W.heap.size ∧ w1.heap.size < W.heap.size ∧ W.frozen? ⟨w.heap.size, 0, none⟩ = false ∧ W.frozen? ⟨w.heap.size, 1, none⟩ = false ∧ W.cell? ⟨rb, 3, none⟩ = some (.slice Al (rs.map Rec.i).length cl) ∧ rb < W.heap.size ∧ Within w1 W) 6 (.firm 0 (.firm 1 (.firm 2 (.firm 3 (.firm 4 (.firm 5 (.one 6 .nil))))))) (by kernel_rfl) (by kernel_rfl) ⟨(hA.cells _ 0 qs).trans q0, (hA.cells _ 1 qs).trans q1, a0, a1, Nat.lt_of_lt_of_le qs hA.size, a2, (hA.frozens _ 0 qs).trans qf0, (hA.frozens _ 1 qs).trans qf1, (hA.cells _ 3 hrb1).trans p3, Nat.lt_of_lt_of_le hrb1 hA.size, hA⟩ ?_
    rintro w0 ⟨q0, q1, p0, p1, qs, ps, qf0, qf1, p3, hrb1, hw0⟩
    try simp only [Act.put, List.setIfInBounds_toArray, List.set_cons_zero, List.set_cons_succ]
    iterate 6
      apply sch_firm rfl rfl (by repeat (first | with_reducible exact Within.refl _ | with_reducible assumption | with_reducible refine Within.alloc ?_ _ | with_reducible refine Within.drew ?_ | with_reducible refine Within.drewN ?_ _ | with_reducible refine Within.setCell ?_ (by first | (simp; done) | (simp; omega)) _ | with_reducible refine Within.trans ?_ (by assumption)))
      · intro wq hq
        have hcq := hq.cells
        clear hq
        go_simp
        rfl
      try simp only [Act.put, List.setIfInBounds_toArray, List.set_cons_zero, List.set_cons_succ]
    refine sch_one rfl rfl (fun K hK => ?_)
    go_simp
    refine hK _ _ (fun h => absurd h (by decide)) ?_
    clear hK K
    try simp only [Act.put, List.setIfInBounds_toArray, List.set_cons_zero, List.set_cons_succ]
    refine sch_nil ?_
    go_wp2
    have hX : Within w w0 := (Within.trans ((Within.refl w).alloc _) (H1.out.trans hw0))
    have hK9 : But w.heap.size w0 (((w0.setCell ⟨w.heap.size, 0, none⟩ (.int .i64 (y : Int))).setCell ⟨w.heap.size, 1, none⟩ (.int .i64 (a : Int))).drew) := (((But.refl w.heap.size w0).set (.inl rfl) _).set (.inl rfl) _).drew
    have hI9 : Within w (((w0.setCell ⟨w.heap.size, 0, none⟩ (.int .i64 (y : Int))).setCell ⟨w.heap.size, 1, none⟩ (.int .i64 (a : Int))).drew) := (((hX.setCell (Nat.le_refl _) _).setCell (Nat.le_refl _) _).drew)
    have hL9 := (HL.out.of hw0).keep (w' := ((w0.setCell ⟨w.heap.size, 0, none⟩ (.int .i64 (y : Int))).setCell ⟨w.heap.size, 1, none⟩ (.int .i64 (a : Int))).drew) (fun j hj hl => hK9.block j hl (fun e => by have := Option.some.inj e; simp at hj; omega))
    refine bodyPost_ret (v := .tuple #[.slice Al (rs.map Rec.i).length cl, .agg #[.int .i64 (y : Int), .int .i64 (a : Int)]]) (by simp [results, Tryz.results18, go_sem, q0, q1, qf0, qf1, qs]) rfl ⟨_, rfl, hL9.less (by simp), hI9⟩
end Go.Proofs.YtpmjlaiafgbjgaaGreatDoor
end

section
namespace Go.Proofs.YtpmjlaiafgbjgaaGreatDoor
open Go.RowKit
theorem Within.grown {a b c : World} {row : Option Nat} (h : Within a b) (k : b.grownBy c row) (hr : ∀ j, row = some j → a.heap.size ≤ j) : Within a c :=
  h.asides ((ButS.refl (fun j => row = some j) b).grown k (fun j hj => .inl hj)) hr
def RrdRel (WT : World) (b : List Nat) (lv av kv : Value) (wr : World) : Prop := ∃ (a k : Nat) (rs : List Rec), av = .int .i64 (a : Int) ∧ kv = .int .u32 (k : Int) ∧ RecsO wr WT.heap.size lv (rs.map Rec.i) ∧ Within WT wr ∧ a ≤ b.length ∧ 8 ≤ a ∧ k < 4294967296 ∧ rs.length ≤ 1048576 ∧
  readV pf (b.drop 8) 0 startV = (rs ++ (readV pf (b.drop a) rs.length k).1, (readV pf (b.drop a) rs.length k).2.1, (a - 8) + (readV pf (b.drop a) rs.length k).2.2.1, (readV pf (b.drop a) rs.length k).2.2.2)
theorem RrdRel.start {WT W : World} {b : List Nat} (h8 : 8 ≤ b.length) (hW : Within WT W) : RrdRel WT b (.slice none 0 0) (.int .i64 8) (.int .u32 (startV : Int)) W :=
  ⟨8, startV, [], rfl, rfl, RecsO.nil_ _ _, hW, h8, Nat.le_refl _, startV_lt, by simp, by simp⟩
theorem why_next {b : List Nat} {a k : Nat} {rs : List Rec} (hb : Bytes b) (h8 : 8 ≤ a) (ha : a ≤ b.length)
    (hv : readV pf (b.drop 8) 0 startV = (rs ++ (readV pf (b.drop a) rs.length k).1, (readV pf (b.drop a) rs.length k).2.1, (a - 8) + (readV pf (b.drop a) rs.length k).2.2.1, (readV pf (b.drop a) rs.length k).2.2.2))
    (hy : whyV pf (b.drop a) rs.length k = 0) : a + (endV (b.drop a) + 4) ≤ b.length ∧ rs.length < 1048576 ∧ linkV k ((b.drop a).take (endV (b.drop a))) < 4294967296 ∧
    readV pf (b.drop 8) 0 startV = ((rs ++ [recV (b.drop a)]) ++ (readV pf (b.drop (a + (endV (b.drop a) + 4))) (rs ++ [recV (b.drop a)]).length (linkV k ((b.drop a).take (endV (b.drop a))))).1, (readV pf (b.drop (a + (endV (b.drop a) + 4))) (rs ++ [recV (b.drop a)]).length (linkV k ((b.drop a).take (endV (b.drop a))))).2.1, (a + (endV (b.drop a) + 4) - 8) + (readV pf (b.drop (a + (endV (b.drop a) + 4))) (rs ++ [recV (b.drop a)]).length (linkV k ((b.drop a).take (endV (b.drop a))))).2.2.1, (readV pf (b.drop (a + (endV (b.drop a) + 4))) (rs ++ [recV (b.drop a)]).length (linkV k ((b.drop a).take (endV (b.drop a))))).2.2.2) := by
  obtain ⟨s1, s2, s3, s4⟩ := whyV_sums hy
  have hn : rs.length < 1048576 := by
    by_cases h : 1048576 ≤ rs.length
    · have := why_form (b := b.drop a) (n := rs.length) (k := k) (by omega) (fun e => e s2) (.inr (.inr (.inr (.inr h))))
      rw [this] at hy; cases hy
    · omega
  have hl : (b.drop a).length = b.length - a := List.length_drop
  refine ⟨by omega, hn, linkV_lt ((hb.drop a).take _), ?_⟩
  rw [hv, readV_rec hy, List.drop_drop, List.length_append]
  simp only [List.append_assoc, List.singleton_append, List.length_cons, List.length_nil, Prod.mk.injEq, true_and]
  have e : a + (endV (b.drop a) + 4) - 8 = a - 8 + (endV (b.drop a) + 4) := by omega
  rw [e]
  refine ⟨?_, trivial⟩
  rw [Nat.zero_add]
  omega
theorem logRead_end {b : List Nat} {a k y : Nat} {rs : List Rec} (hm : b.take 8 = magicV) (h8 : 8 ≤ a)
    (hv : readV pf (b.drop 8) 0 startV = (rs ++ (readV pf (b.drop a) rs.length k).1, (readV pf (b.drop a) rs.length k).2.1, (a - 8) + (readV pf (b.drop a) rs.length k).2.2.1, (readV pf (b.drop a) rs.length k).2.2.2))
    (hy : readV pf (b.drop a) rs.length k = ([], y, 0, k)) : logRead b = (rs, y, a) := by
  rw [hy] at hv
  rw [logRead_yes hm, hv]
  have e : 8 + (a - 8 + 0) = a := by omega
  simp only [e, List.append_nil]
set_option maxRecDepth 100000 in
set_option maxHeartbeats 1000000 in
theorem Rread_any (A : Option Addr) (c : Nat) (b : List Nat) (hb : Bytes b) (hlen : b.length ≤ 140737488355328) (hc : b.length ≤ c) (w : World) (hr : SlAt w A (u8v b)) : Calls Tryz.prog 19 #[.slice A b.length c] w fun e w' => ∃ lv, e = .returned (.tuple #[lv, .agg #[.int .i64 ((logRead b).2.1 : Int), .int .i64 ((logRead b).2.2 : Int)]]) ∧ RecsO w' w.heap.size lv ((logRead b).1.map Rec.i) ∧ Within w w' := by
  obtain ⟨⟨rs9, y9, a9⟩, hlr⟩ : ∃ t, logRead b = t := ⟨_, rfl⟩
  rw [hlr]
  have HLR := Lib.hid hlr; clear hlr
  obtain ⟨WT, hWT⟩ : ∃ WT, WT = w.alloc (.cells #[.int .i64 0, .int .i64 0] 42) := ⟨_, rfl⟩
  have q0 : WT.cell? ⟨w.heap.size, 0, none⟩ = some (.int .i64 0) := by rw [hWT]; simp
  have q1 : WT.cell? ⟨w.heap.size, 1, none⟩ = some (.int .i64 0) := by rw [hWT]; simp
  have qf0 : WT.frozen? ⟨w.heap.size, 0, none⟩ = false := by rw [hWT]; simp
  have qf1 : WT.frozen? ⟨w.heap.size, 1, none⟩ = false := by rw [hWT]; simp
  have hWW0 : Within w WT := by rw [hWT]; exact (Within.refl w).alloc _
  have qs : w.heap.size < WT.heap.size := by rw [hWT]; simp
  have QT := Lib.hid (And.intro q0 (And.intro q1 (And.intro qf0 (And.intro qf1 qs))))
  have HWW := Lib.hid hWW0; have HR := Lib.hid (hr.of hWW0); have HB := Lib.hid hb
  clear hWW0 hr hb
  by_cases h8 : b.length < 8
  · obtain ⟨rfl, rfl, rfl⟩ : rs9 = [] ∧ y9 = 1 ∧ a9 = 0 := by have := HLR.out; rw [logRead_no (fun h => by have := congrArg List.length h; rw [List.length_take] at this; have e : magicV.length = 8 := rfl; omega)] at this; simp only [Prod.mk.injEq] at this; exact ⟨this.1.symm, this.2.1.symm, this.2.2.symm⟩
    have v0 : decide ((b.length : Int) < 8) = true := decide_eq_true (by omega)
    clear h8 HLR
    go_enter Tryz.func19, Tryz.ntmps19
    go_wp2_with fail
    rw [← hWT]
    clear hWT
    refine (Magic_any _).mono ?_; rintro e1 w1 ⟨vm, rfl, hOm, h1⟩
    obtain ⟨Am, cm, rfl, hcm, hsm, _⟩ := hOm.form
    have q0 := (h1.cells _ _ qs).trans q0
    have q1 := (h1.cells _ _ qs).trans q1
    have qf0 := (h1.frozens _ _ qs).trans qf0
    have qf1 := (h1.frozens _ _ qs).trans qf1
    have qs := Nat.lt_of_lt_of_le qs h1.size
    have HSM := Lib.hid hsm
    clear hsm hOm
    rw [show magicV.length = 8 from rfl]
    rw [show magicV.length = 8 from rfl] at hcm
    have cm8 : (8 : Int) ≤ (cm : Int) := by omega
    go_wp2_with fail
    refine wp_region_schG (fun W => SlAt W A (u8v b) ∧ SlAt W Am (u8v magicV) ∧ W.cell? ⟨w.heap.size, 0, none⟩ = some (.int .i64 0) ∧ W.cell? ⟨w.heap.size, 1, none⟩ = some (.int .i64 0) ∧ W.frozen? ⟨w.heap.size, 0, none⟩ = false ∧ W.frozen? ⟨w.heap.size, 1, none⟩ = false ∧ w.heap.size < W.heap.size ∧ Within w1 W) 14 (.firm 0 (.firm 1 (.firm 2 (.firm 3 (.firm 4 (.firm 5 (.firm 6 (.firm 7 (.firm 8 (.firm 9 (.firm 10 (.firm 11 (.firm 12 (.firm 13 (.one 14 .nil))))))))))))))) (by kernel_rfl) (by kernel_rfl) ⟨HR.out.of h1, HSM.out, q0, q1, qf0, qf1, qs, Within.refl _⟩ ?_
    rintro w0 ⟨hls, hms, q0, q1, qf0, qf1, qs, hw0⟩
    try simp only [Act.put, List.setIfInBounds_toArray, List.set_cons_zero, List.set_cons_succ]
    iterate 6
      apply sch_firm rfl rfl (by repeat (first | with_reducible exact Within.refl _ | with_reducible assumption | with_reducible refine Within.alloc ?_ _ | with_reducible refine Within.drew ?_ | with_reducible refine Within.drewN ?_ _ | with_reducible refine Within.setCell ?_ (by first | (simp; done) | (simp; omega)) _ | with_reducible refine Within.trans ?_ (by assumption)))
      · intro wq hq
        have hcq := hq.cells
        clear hq
        go_simp
        rfl
      try simp only [Act.put, List.setIfInBounds_toArray, List.set_cons_zero, List.set_cons_succ]
    iterate 8
      refine sch_skip rfl (by first | rfl | decide | (simp [Region.wanted, yielded]; done)) (by repeat (first | with_reducible exact Within.refl _ | with_reducible assumption | with_reducible refine Within.alloc ?_ _ | with_reducible refine Within.drew ?_ | with_reducible refine Within.drewN ?_ _ | with_reducible refine Within.setCell ?_ (by first | (simp; done) | (simp; omega)) _ | with_reducible refine Within.trans ?_ (by assumption))) ?_
      try simp only [Act.put, List.setIfInBounds_toArray, List.set_cons_zero, List.set_cons_succ]
    refine sch_one rfl rfl (fun K hK => ?_)
    go_simp
    refine hK _ _ (fun h => absurd h (by decide)) ?_
    clear hK K
    try simp only [Act.put, List.setIfInBounds_toArray, List.set_cons_zero, List.set_cons_succ]
    refine sch_nil ?_
    go_wp2
    refine bodyPost_ret (v := .tuple #[.slice none 0 0, .agg #[.int .i64 1, .int .i64 0]]) (by simp [results, Tryz.results19, go_sem, q0, q1, qf0, qf1, qs]) rfl ⟨_, rfl, RecsO.nil_ _ _, ?_⟩
    exact ((((HWW.out.trans (h1.trans hw0)).setCell (Nat.le_refl _) _).setCell (Nat.le_refl _) _).drew)
  obtain ⟨ad, rfl, _, _⟩ := SlAt.at (l := b) (k := 0) (by exact HR.out) (by omega)
  have l8 : (b.take 8).length = 8 := by rw [List.length_take]; omega
  obtain ⟨s, hs⟩ : ∃ s, strB (b.take 8) = s := ⟨_, rfl⟩
  obtain ⟨ms, hms⟩ : ∃ s, strB magicV = s := ⟨_, rfl⟩
  have ST : Hid (∀ W, SlAt W (some ad) (u8v b) → (convert 28 9 (.slice (some ad) 8 c)).run Tryz.prog W = .ok (.string s) W) := Lib.hid (fun W h => by
    have h2 : SlAt W (some ad) (u8v (b.take 8)) := by have := h.take 8; unfold u8v at this ⊢; rwa [← List.map_take] at this
    rw [← hs]; have := run_str (some ad) c (b.take 8) W h2; rwa [l8] at this)
  have SM : Hid (∀ W A c, SlAt W A (u8v magicV) → (convert 28 9 (.slice A 8 c)).run Tryz.prog W = .ok (.string ms) W) := Lib.hid (fun W A c h => by rw [← hms]; exact run_str A c magicV W h)
  have v0 : decide ((b.length : Int) < 8) = false := decide_eq_false (by omega)
  have b8 : (8 : Int) ≤ (b.length : Int) := by omega
  have c8 : (8 : Int) ≤ (c : Int) := by omega
  have n8 : 8 ≤ b.length := by omega
  have m8 : 8 ≤ c := by omega
  have bc : (b.length : Int) ≤ (c : Int) := by omega
  clear h8
  by_cases hm : b.take 8 = magicV
  · obtain rfl : s = ms := by rw [← hs, ← hms, hm]
    have hne : (s.toList != s.toList) = false := by simp
    have HM := Lib.hid hm; clear hm hs hms
    go_enter Tryz.func19, Tryz.ntmps19
    go_wp2_with fail
    rw [← hWT]
    clear hWT
    refine (Magic_any _).mono ?_; rintro e1 w1 ⟨vm, rfl, hOm, h1⟩
    obtain ⟨Am, cm, rfl, hcm, hsm, _⟩ := hOm.form
    have q0 := (h1.cells _ _ qs).trans q0
    have q1 := (h1.cells _ _ qs).trans q1
    have qf0 := (h1.frozens _ _ qs).trans qf0
    have qf1 := (h1.frozens _ _ qs).trans qf1
    have qs := Nat.lt_of_lt_of_le qs h1.size
    have HSM := Lib.hid hsm
    clear hsm hOm
    rw [show magicV.length = 8 from rfl]
    rw [show magicV.length = 8 from rfl] at hcm
    have cm8 : (8 : Int) ≤ (cm : Int) := by omega
    go_wp2_with fail
    refine wp_region_schG (fun W => SlAt W (some ad) (u8v b) ∧ SlAt W Am (u8v magicV) ∧ W.cell? ⟨w.heap.size, 0, none⟩ = some (.int .i64 0) ∧ W.cell? ⟨w.heap.size, 1, none⟩ = some (.int .i64 0) ∧ W.frozen? ⟨w.heap.size, 0, none⟩ = false ∧ W.frozen? ⟨w.heap.size, 1, none⟩ = false ∧ w.heap.size < W.heap.size ∧ Within w1 W) 14 (.firm 0 (.firm 1 (.firm 2 (.firm 3 (.firm 4 (.firm 5 (.firm 6 (.firm 7 (.firm 8 (.firm 9 (.firm 10 (.firm 11 (.firm 12 (.firm 13 (.one 14 .nil))))))))))))))) (by kernel_rfl) (by kernel_rfl) ⟨HR.out.of h1, HSM.out, q0, q1, qf0, qf1, qs, Within.refl _⟩ ?_
    rintro w0 ⟨hls, hms, q0, q1, qf0, qf1, qs, hw0⟩
    try simp only [Act.put, List.setIfInBounds_toArray, List.set_cons_zero, List.set_cons_succ]
    iterate 6
      apply sch_firm rfl rfl (by repeat (first | with_reducible exact Within.refl _ | with_reducible assumption | with_reducible refine Within.alloc ?_ _ | with_reducible refine Within.drew ?_ | with_reducible refine Within.drewN ?_ _ | with_reducible refine Within.setCell ?_ (by first | (simp; done) | (simp; omega)) _ | with_reducible refine Within.trans ?_ (by assumption)))
      · intro wq hq
        have hcq := hq.cells
        have st1 := ST.out wq (hls.of hq)
        have st2 := SM.out wq Am cm (hms.of hq)
        clear hq
        go_simp
        rfl
      try simp only [Act.put, List.setIfInBounds_toArray, List.set_cons_zero, List.set_cons_succ]
    iterate 8
      apply sch_want rfl (by first | rfl | decide | (simp [Region.wanted, yielded]; done)) (by repeat (first | with_reducible exact Within.refl _ | with_reducible assumption | with_reducible refine Within.alloc ?_ _ | with_reducible refine Within.drew ?_ | with_reducible refine Within.drewN ?_ _ | with_reducible refine Within.setCell ?_ (by first | (simp; done) | (simp; omega)) _ | with_reducible refine Within.trans ?_ (by assumption)))
      · intro wq hq
        have hcq := hq.cells
        have st1 := ST.out wq (hls.of hq)
        have st2 := SM.out wq Am cm (hms.of hq)
        clear hq
        go_simp
        rfl
      try simp only [Act.put, List.setIfInBounds_toArray, List.set_cons_zero, List.set_cons_succ]
    refine sch_one rfl rfl (fun K hK => ?_)
    go_simp
    refine hK _ _ (fun h => absurd h (by decide)) ?_
    clear hK K
    try simp only [Act.put, List.setIfInBounds_toArray, List.set_cons_zero, List.set_cons_succ]
    refine sch_nil ?_
    have h03 : Within WT w0 := h1.trans hw0
    have HX0 := Lib.hid h03
    clear hls hms hw0 h03 h1 HSM
    go_wp2_with fail
    refine (start_any _).mono ?_; rintro e3 w3 ⟨rfl, h3⟩
    have HREL := Lib.hid (RrdRel.start (WT := WT) (b := b) n8 (HX0.out.trans (Within.trans ((Within.refl w0).drew) h3)))
    clear h3
    go_wp2_with fail
    go_loopw [5, 6, 7] (fun lv av kv wr => RrdRel WT b lv av kv wr) (fun _ av _ _ => b.length - (intOf av).toNat)
    case atStart => exact HREL.out
    case round =>
      obtain ⟨a, k, rs, rfl, rfl, hL, hin, ha, ha8, hk, hrs, hv⟩ := hrel
      obtain ⟨Al, cl, rfl, hcl, hx1, hx2, hx3⟩ := hL.at
      clear hx1 hx2 hx3
      rw [List.length_map] at hcl hL ⊢
      obtain ⟨t0, t1, t2, t3, ts⟩ := QT.out
      have HV := Lib.hid hv; have HL := Lib.hid hL; have HIN := Lib.hid hin
      clear hv hL
      by_cases hlt : a < b.length
      · have TK := Lib.hid (Rtake22_any (some (ad.add a)) (c - a) (b.drop a) (HB.out.drop a) (by rw [List.length_drop]; omega) (by rw [List.length_drop]; omega) rs.length k hk hrs _ (left_at (HR.out.of hin) a))
        rw [List.length_drop] at TK
        clear hin
        have i1 : (a : Int) < (b.length : Int) := by omega
        have i2 : (a : Int) ≤ (b.length : Int) := by omega
        have i3 : (a : Int) ≤ (c : Int) := by omega
        have i4 : ¬ c = a := by omega
        have i5 : (0 : Int) ≤ (a : Int) := by omega
        have i6 : a ≤ c := by omega
        go_wp2_with fail
        refine TK.out.mono ?_; rintro e5 w5 hP
        clear TK
        rcases hP with ⟨hy, rfl, h5⟩ | ⟨hy, v, rfl, hO5, h5⟩
        · have HY := Lib.hid (readV_why (F := pf) (b := b.drop a) (n := rs.length) (last := k) (fun h => by have := congrArg List.length h; rw [List.length_drop] at this; simp at this; omega) hy)
          obtain ⟨y, hyy⟩ : ∃ y, whyV pf (b.drop a) rs.length k = y := ⟨_, rfl⟩
          rw [hyy] at hy HY ⊢
          clear hyy
          obtain ⟨rfl, rfl, rfl⟩ : rs9 = rs ∧ y9 = y ∧ a9 = a := by have := HLR.out; rw [logRead_end HM.out ha8 HV.out HY.out] at this; simp only [Prod.mk.injEq] at this; exact ⟨this.1.symm, this.2.1.symm, this.2.2.symm⟩
          have y0 : ((y9 : Int) != 0) = true := bne_iff_ne.2 (by omega)
          have H5x := HIN.out.trans h5
          have q0 := (H5x.cells _ 0 ts).trans t0
          have q1 := (H5x.cells _ 1 ts).trans t1
          have qf0 := (H5x.frozens _ 0 ts).trans t2
          have qf1 := (H5x.frozens _ 1 ts).trans t3
          have qs := Nat.lt_of_lt_of_le ts H5x.size
          have HLx := Lib.hid (HL.out.of h5)
          have HX := Lib.hid H5x
          clear h5 H5x hy t0 t1 t2 t3
          go_wp2
          have hK9 : But w.heap.size w5 ((w5.setCell ⟨w.heap.size, 0, none⟩ (.int .i64 (y9 : Int))).setCell ⟨w.heap.size, 1, none⟩ (.int .i64 (a9 : Int))) := ((But.refl w.heap.size w5).set (.inl rfl) _).set (.inl rfl) _
          have hL9 := (((HLx.out).but hK9 ts).less (Nat.le_of_lt ts)).of ((Within.refl _).alloc (.cells #[.int .i64 0, .slice none 0 0] 30))
          refine bodyPost_ret (v := .tuple #[.slice Al rs9.length cl, .agg #[.int .i64 (y9 : Int), .int .i64 (a9 : Int)]]) (by simp [results, Tryz.results19, go_sem, q0, q1, qf0, qf1, qs]) rfl ⟨_, rfl, hL9, ?_⟩
          exact (((HWW.out.trans HX.out).setCell (Nat.le_refl _) _).setCell (Nat.le_refl _) _).alloc _
        · have hy0 := hy
          obtain ⟨le9, hn9, hk9, hv9⟩ := why_next HB.out ha8 ha HV.out hy
          obtain ⟨k9, hkk⟩ : ∃ k9, linkV k ((b.drop a).take (endV (b.drop a))) = k9 := ⟨_, rfl⟩
          rw [hkk] at hk9 hv9 ⊢
          obtain ⟨r9, hr9⟩ : ∃ r, recV (b.drop a) = r := ⟨_, rfl⟩
          obtain ⟨E, hE⟩ : ∃ E, endV (b.drop a) + 4 = E := ⟨_, rfl⟩
          have hri : Rec.i r9 = (((b.drop a).getD 0 0 : Int), (b.drop a |>.drop 13).take (at4 (b.drop a) 5)) := by rw [← hr9]; rfl
          rw [hr9, hE] at hv9
          rw [hE] at le9 ⊢
          have hE0 : 0 < E := by omega
          obtain ⟨x, hx⟩ : ∃ x, (b.drop a).getD 0 0 = x := ⟨_, rfl⟩
          rw [hx] at hri ⊢
          obtain ⟨dd, hdd⟩ : ∃ d, ((b.drop a).drop 13).take (at4 (b.drop a) 5) = d := ⟨_, rfl⟩
          rw [hdd] at hri hO5
          have hdb : Bytes dd := by rw [← hdd]; exact ((HB.out.drop a).drop 13).take _
          obtain ⟨Av, cv, rfl, _, _, _⟩ := hO5.form
          have hlt9 := HL.out.own_lt
          obtain ⟨W8, hW8⟩ : ∃ W8, W8 = w5.alloc (.cells #[.int .i64 (x : Int), .slice Av dd.length cv] 30) := ⟨_, rfl⟩
          have h58 : Within w5 W8 := by rw [hW8]; exact (Within.refl w5).alloc _
          have hne9 : (Value.slice Av dd.length cv).ownBlock = none ∨ (Value.slice Av dd.length cv).ownBlock ≠ (Value.slice Al rs.length cl).ownBlock := by
            cases ho : (Value.slice Av dd.length cv).ownBlock with
            | none => exact .inl rfl
            | some j => exact .inr (fun e => by have h1 := (hO5.lt j ho).1; have h2 := (hlt9 j e.symm).2; omega)
          obtain ⟨vn, wn, hrun9, hR9, hg9, hb9, ho9⟩ := run_app_rec W8 WT.heap.size (.slice Al rs.length cl) (rs.map Rec.i) ((x : Int), dd) (.slice Av dd.length cv) (HL.out.of (h5.trans h58)) ((hO5.less HIN.out.size).of h58) hdb hne9 (by rw [List.length_map]; omega) (HIN.out.trans (h5.trans h58)).size
          have hX9 : Within WT wn := (HIN.out.trans (h5.trans h58)).grown hg9 (fun j hj => (hb9 j hj))
          have hmap : rs.map Rec.i ++ [((x : Int), dd)] = (rs ++ [r9]).map Rec.i := by rw [List.map_append]; show _ = _ ++ [Rec.i r9]; rw [hri]
          rw [hmap] at hR9
          have hS8 : W8.heap.size = w5.heap.size + 1 := by rw [hW8]; simp
          rw [hS8] at hrun9
          rw [hW8] at hrun9
          clear hS8
          have RUN9 := Lib.hid hrun9; have HR9 := Lib.hid hR9; have HX9 := Lib.hid hX9
          clear hrun9 hR9 hg9 hb9 ho9 hX9 hmap hne9 hlt9 h58 hW8
          have H5 := Lib.hid h5; have HO5 := Lib.hid hO5; have HV9 := Lib.hid hv9; have HRI := Lib.hid hri; have HDB := Lib.hid hdb
          clear h5 hO5 hv9 hri hdb hdd hx hE hr9 hkk hy hy0 t0 t1 t2 t3
          go_wp2_with (at_builtin; refine wpList_append_run rfl (.tmp 54) (.tmp 56) 52 rfl _ _ rfl rfl RUN9.out ?_)
          go_round
          case rel => exact ⟨a + E, k9, rs ++ [r9], rfl, rfl, HR9.out, HX9.out, by omega, by omega, hk9, by simp; omega, HV9.out⟩
          case measure => simp [intOf]; omega
      · obtain rfl : a = b.length := by omega
        have HY : Hid (readV pf (b.drop b.length) rs.length k = ([], 0, 0, k)) := Lib.hid (by rw [List.drop_length]; exact readV_nil _ _)
        obtain ⟨rfl, rfl, rfl⟩ : rs9 = rs ∧ y9 = 0 ∧ a9 = b.length := by have := HLR.out; rw [logRead_end HM.out ha8 HV.out HY.out] at this; simp only [Prod.mk.injEq] at this; exact ⟨this.1.symm, this.2.1.symm, this.2.2.symm⟩
        have q0 := (hin.cells _ 0 ts).trans t0
        have q1 := (hin.cells _ 1 ts).trans t1
        have qf0 := (hin.frozens _ 0 ts).trans t2
        have qf1 := (hin.frozens _ 1 ts).trans t3
        have qs := Nat.lt_of_lt_of_le ts hin.size
        have HLx := HL
        clear hin t0 t1 t2 t3
        go_wp2
        have hK9 : But w.heap.size wr ((wr.setCell ⟨w.heap.size, 0, none⟩ (.int .i64 0)).setCell ⟨w.heap.size, 1, none⟩ (.int .i64 (b.length : Int))) := ((But.refl w.heap.size wr).set (.inl rfl) _).set (.inl rfl) _
        have hL9 := (((HLx.out).but hK9 ts).less (Nat.le_of_lt ts))
        refine bodyPost_ret (v := .tuple #[.slice Al rs9.length cl, .agg #[.int .i64 0, .int .i64 (b.length : Int)]]) (by simp [results, Tryz.results19, go_sem, q0, q1, qf0, qf1, qs]) rfl ⟨_, rfl, hL9, ?_⟩
        exact (((HWW.out.trans HIN.out).setCell (Nat.le_refl _) _).setCell (Nat.le_refl _) _)
  · obtain ⟨rfl, rfl, rfl⟩ : rs9 = [] ∧ y9 = 1 ∧ a9 = 0 := by have := HLR.out; rw [logRead_no (hm)] at this; simp only [Prod.mk.injEq] at this; exact ⟨this.1.symm, this.2.1.symm, this.2.2.symm⟩
    have hne' : s.toList ≠ ms.toList := fun e => hm (strB_inj (HB.out.take 8) magic_bytes (by rw [hs, hms]; exact e))
    have hne : (s.toList != ms.toList) = true := bne_iff_ne.2 hne'
    have hnq : (s.toList == ms.toList) = false := beq_eq_false_iff_ne.2 hne'
    clear hm hs hms HLR hne'
    go_enter Tryz.func19, Tryz.ntmps19
    go_wp2_with fail
    rw [← hWT]
    clear hWT
    refine (Magic_any _).mono ?_; rintro e1 w1 ⟨vm, rfl, hOm, h1⟩
    obtain ⟨Am, cm, rfl, hcm, hsm, _⟩ := hOm.form
    have q0 := (h1.cells _ _ qs).trans q0
    have q1 := (h1.cells _ _ qs).trans q1
    have qf0 := (h1.frozens _ _ qs).trans qf0
    have qf1 := (h1.frozens _ _ qs).trans qf1
    have qs := Nat.lt_of_lt_of_le qs h1.size
    have HSM := Lib.hid hsm
    clear hsm hOm
    rw [show magicV.length = 8 from rfl]
    rw [show magicV.length = 8 from rfl] at hcm
    have cm8 : (8 : Int) ≤ (cm : Int) := by omega
    go_wp2_with fail
    refine wp_region_schG (fun W => SlAt W (some ad) (u8v b) ∧ SlAt W Am (u8v magicV) ∧ W.cell? ⟨w.heap.size, 0, none⟩ = some (.int .i64 0) ∧ W.cell? ⟨w.heap.size, 1, none⟩ = some (.int .i64 0) ∧ W.frozen? ⟨w.heap.size, 0, none⟩ = false ∧ W.frozen? ⟨w.heap.size, 1, none⟩ = false ∧ w.heap.size < W.heap.size ∧ Within w1 W) 14 (.firm 0 (.firm 1 (.firm 2 (.firm 3 (.firm 4 (.firm 5 (.firm 6 (.firm 7 (.firm 8 (.firm 9 (.firm 10 (.firm 11 (.firm 12 (.firm 13 (.one 14 .nil))))))))))))))) (by kernel_rfl) (by kernel_rfl) ⟨HR.out.of h1, HSM.out, q0, q1, qf0, qf1, qs, Within.refl _⟩ ?_
    rintro w0 ⟨hls, hms, q0, q1, qf0, qf1, qs, hw0⟩
    try simp only [Act.put, List.setIfInBounds_toArray, List.set_cons_zero, List.set_cons_succ]
    iterate 6
      apply sch_firm rfl rfl (by repeat (first | with_reducible exact Within.refl _ | with_reducible assumption | with_reducible refine Within.alloc ?_ _ | with_reducible refine Within.drew ?_ | with_reducible refine Within.drewN ?_ _ | with_reducible refine Within.setCell ?_ (by first | (simp; done) | (simp; omega)) _ | with_reducible refine Within.trans ?_ (by assumption)))
      · intro wq hq
        have hcq := hq.cells
        have st1 := ST.out wq (hls.of hq)
        have st2 := SM.out wq Am cm (hms.of hq)
        clear hq
        go_simp
        rfl
      try simp only [Act.put, List.setIfInBounds_toArray, List.set_cons_zero, List.set_cons_succ]
    iterate 8
      apply sch_want rfl (by first | rfl | decide | (simp [Region.wanted, yielded]; done)) (by repeat (first | with_reducible exact Within.refl _ | with_reducible assumption | with_reducible refine Within.alloc ?_ _ | with_reducible refine Within.drew ?_ | with_reducible refine Within.drewN ?_ _ | with_reducible refine Within.setCell ?_ (by first | (simp; done) | (simp; omega)) _ | with_reducible refine Within.trans ?_ (by assumption)))
      · intro wq hq
        have hcq := hq.cells
        have st1 := ST.out wq (hls.of hq)
        have st2 := SM.out wq Am cm (hms.of hq)
        clear hq
        go_simp
        rfl
      try simp only [Act.put, List.setIfInBounds_toArray, List.set_cons_zero, List.set_cons_succ]
    refine sch_one rfl rfl (fun K hK => ?_)
    go_simp
    refine hK _ _ (fun h => absurd h (by decide)) ?_
    clear hK K
    try simp only [Act.put, List.setIfInBounds_toArray, List.set_cons_zero, List.set_cons_succ]
    refine sch_nil ?_
    go_wp2
    refine bodyPost_ret (v := .tuple #[.slice none 0 0, .agg #[.int .i64 1, .int .i64 0]]) (by simp [results, Tryz.results19, go_sem, q0, q1, qf0, qf1, qs]) rfl ⟨_, rfl, RecsO.nil_ _ _, ?_⟩
    exact ((((HWW.out.trans (h1.trans hw0)).setCell (Nat.le_refl _) _).setCell (Nat.le_refl _) _).drew)
end Go.Proofs.YtpmjlaiafgbjgaaGreatDoor
end
