/- What the law's walk rests on, part 4: contracts of functions and plain facts. -/
import Derived.Test.YtpmjlaiafgbjgaaGreatDoorRows
import Derived.WalkKit
import Derived.WalkSpells
import Derived.WalkLawsBesides
import Derived.BigQuiet
import Derived.Lib.Hide
import Ieee.Arith
import Derived.Lib.TrailingZeros
import Derived.Lib.BitFns
import Derived.Lib.Strings
import Derived.Lib.Slices
import Derived.Lib.Small
import Derived.Lib.Walk
import Derived.OwnWalk
import Derived.Maps.AppendAt
import Derived.Laws.OwnMore
import Derived.Deep.AppendLies
import Derived.Deep.Draws
import Derived.OrdersHeld
import Derived.StillTail
import Derived.Deep.RegionHeld3
import Derived.Deep.DeepCutAuto
import Derived.IntWalk
import Derived.Maps.Range
import Derived.Maps.RangeWalk
import Derived.Laws.BytesArg
import Derived.Laws.Strings
import Derived.Lib.SlBytesConst
import Derived.RangeFuncNested
import Derived.RangeFuncBound
import Derived.RangeFuncCalls
import Derived.RangeFuncLeaves
import Derived.OwnWalkIn
import Derived.Shelf.Abstract
import Derived.Shelf.RegionOpen
import Derived.TacticsInMore
import Derived.LoopNIn
import Derived.LoopIn
import Derived.RangeFuncBox
import Derived.Laws.IdiomStrings
import Derived.ProofKit
import Derived.OpenShut
import Derived.ShutString
import Derived.ChangeOld
import Derived.ChangeSlices
import Derived.Below
import Derived.Carry
import Derived.SizedLaws
import Derived.Deep.DeepHandedRow
import Derived.Deep.Strs
import Derived.Lib.LaidTab
import Derived.Lib.SmallJoins
import Derived.Deep.Slices
import Derived.Test.YtpmjlaiafgbjgaaGreatDoorZFresh3
set_option linter.unusedVariables false
set_option linter.unusedSimpArgs false
section
namespace Go.Proofs.YtpmjlaiafgbjgaaGreatDoor
open Go.RowKit
set_option maxRecDepth 100000 in
set_option maxHeartbeats 1000000 in
theorem Unpack_near (ad : Addr) (c m : Nat) (l : List Nat) (hm : 12 ≤ m ∧ m ≤ 60) (hc : m + 4 ≤ c) (SZ : Hid (∀ w, SlAt w (some ad) (u8v l) → Calls Tryz.prog 65 #[.slice (some ad) (m + 4) c] w fun e w' => e = .returned (.tuple #[.int .i64 ((m + 4 : Nat) : Int), .bool true]) ∧ w = w')) (G C : Nat) (hC : C < 4294967296) (GT : Hid (∀ w, SlAt w (some ad) (u8v l) → Calls Tryz.prog 66 #[.slice (some (ad.add m)) 4 (c - m)] w fun e w' => e = .returned (.int .u64 (G : Int)) ∧ w = w')) (SM : Hid (∀ w, SlAt w (some ad) (u8v l) → Calls Tryz.prog 67 #[.slice (some ad) m c] w fun e w' => e = .returned (.int .u32 (C : Int)) ∧ w = w')) (S q t : Nat) (hS : S < 256) (hq : q < 4294967296) (ht : t < 4294967296) (GQ : Hid (∀ w, SlAt w (some ad) (u8v l) → Calls Tryz.prog 66 #[.slice (some ⟨ad.block, ad.off + 4, none⟩) 4 (c - 4)] w fun e w' => e = .returned (.int .u64 (q : Int)) ∧ w = w')) (GT4 : Hid (∀ w, SlAt w (some ad) (u8v l) → Calls Tryz.prog 66 #[.slice (some ⟨ad.block, ad.off + 8, none⟩) 4 (c - 8)] w fun e w' => e = .returned (.int .u64 (t : Int)) ∧ w = w')) (h2 : ∀ w, SlAt w (some ad) (u8v l) → w.cell? ⟨ad.block, ad.off + 2, none⟩ = some (.int .u8 (S : Int))) (n K : Nat) (hn : n ≤ 6) (hmn : m = 12 + 4 * n) (hK : bits .and .u8 (K : Int) 128 = 0) (h3 : ∀ w, SlAt w (some ad) (u8v l) → w.cell? ⟨ad.block, ad.off + 3, none⟩ = some (.int .u8 (K : Int))) (d : List Nat) (hd : d = (l.drop 12).take (4 * n)) (hbd : Bytes d) (hdl : d.length = 4 * n) (fb sb : Bool) (hfb : (rdVals pf false n d).all finD = fb) (hsb : (rdVals pf false n d).all isSD = sb) (er : Int) (her : er = if fb = false ∨ false = sb then 211 else 0) (rd : Rd) (hrd : rd = if er = 0 then ⟨S, q, t, rdVals pf false n d⟩ else noRd) (hs : ((G : Int) != (C : Int)) = false) (w : World) (hT : FmS w) (hr : SlAt w (some ad) (u8v l)) : Calls Tryz.prog 46 #[.slice (some ad) (m + 4) c] w (RetR w rd er) := by
  have HFB := Lib.hid hfb; have HSB := Lib.hid hsb; have HER := Lib.hid her; have HBD := Lib.hid hbd; have HDL := Lib.hid hdl; have HD := Lib.hid hd; have HRD := Lib.hid hrd; clear hrd hfb hsb her hbd hdl hd
  have HR := Lib.hid hr; clear hr
  obtain ⟨m1, m2⟩ := hm
  have hn0 : (((m + 4 : Nat) : Int) != ((m + 4 : Nat) : Int)) = false := by rw [bne_eq_false_iff_eq]
  have d4 : decide ((m : Int) + 4 < 4) = false := decide_eq_false (by omega)
  have w4 : IntKind.i64.wrap (m : Int) = (m : Int) := by rw [IntKind.wrap_i64]; omega
  have hcm : ¬ c = m := by omega
  have hle : (m : Int) ≤ (m : Int) + 4 := by omega
  have hmc : m ≤ c := by omega
  have gC : IntKind.u64.wrap (C : Int) = (C : Int) := by rw [IntKind.wrap_u64]; omega
  clear hC
  have w32q : IntKind.u32.wrap (q : Int) = (q : Int) := by rw [IntKind.wrap_u32]; omega
  have w32t : IntKind.u32.wrap (t : Int) = (t : Int) := by rw [IntKind.wrap_u32]; omega
  have wS : IntKind.i64.wrap (S : Int) = (S : Int) := by rw [IntKind.wrap_i64]; omega
  have hc4 : ¬ c = 4 := by omega
  have hc8 : ¬ c = 8 := by omega
  have hc12 : ¬ c = 12 := by omega
  have l8 : (8 : Int) ≤ (c : Int) := by omega
  have l12 : (12 : Int) ≤ (c : Int) := by omega
  have l2 : (2 : Int) < (m : Int) + 4 := by omega
  have l3 : (3 : Int) < (m : Int) + 4 := by omega
  have l12m : (12 : Int) ≤ (m : Int) := by omega
  have HH := Lib.hid h2; have HH3 := Lib.hid h3; have HMN := Lib.hid hmn; clear h2 h3 hmn
  have HS := Lib.hid (And.intro hS (And.intro hq ht)); clear hS hq ht
  go_enter Tryz.func46, Tryz.ntmps46
  go_wp2_with fail
  refine (SZ.out _ (HR.out.of (by repeat (first | with_reducible exact Within.refl _ | with_reducible assumption | with_reducible refine Within.alloc ?_ _ | with_reducible refine Within.drew ?_ | with_reducible refine Within.drewN ?_ _ | with_reducible refine Within.setCell ?_ (by first | (simp; done) | (simp; omega)) _ | with_reducible refine Within.trans ?_ (by assumption))))).mono ?_; rintro e1 w1 ⟨rfl, rfl⟩
  go_wp2
  refine wp_region_within (by kernel_rfl) (by kernel_rfl) ?_
  repeat
    apply wpq_step rfl
    · intro wq hCq
      have hsl := HR.out.of ((((Within.refl w).alloc _).trans hCq))
      go_simp
      first | rfl | exact hCq.same (GT.out _ hsl) | exact hCq.same (SM.out _ hsl) | (trace_state; fail)
    try simp only [Act.put, List.setIfInBounds_toArray, List.set_cons_zero, List.set_cons_succ]
  refine wpQuiet_nil ?_
  intro w3 hb3
  have q0 : w3.cell? ⟨w.heap.size, 0, none⟩ = some (.int .i64 0) := (hb3.cells _ _ (by simp)).trans (by simp)
  have q1 : w3.cell? ⟨w.heap.size, 1, none⟩ = some (.int .u32 0) := (hb3.cells _ _ (by simp)).trans (by simp)
  have q2 : w3.cell? ⟨w.heap.size, 2, none⟩ = some (.int .u32 0) := (hb3.cells _ _ (by simp)).trans (by simp)
  have q3 : w3.cell? ⟨w.heap.size, 3, none⟩ = some (.slice none 0 0) := (hb3.cells _ _ (by simp)).trans (by simp)
  have qf : ∀ o, w3.frozen? ⟨w.heap.size, o, none⟩ = false := fun o => (hb3.frozens _ _ (by simp)).trans (by simp)
  have qz : w.heap.size < w3.heap.size := World.block_lt_of_cell? _ _ q0
  go_upto_region 6 with fail
  go_cut [6] (fun s6 wx => s6 = .pointer (some ⟨w3.heap.size, 0, none⟩) ∧ (wx.cell? ⟨w3.heap.size, 0, none⟩ = some (.int .i64 (S : Int)) ∧ wx.cell? ⟨w3.heap.size, 1, none⟩ = some (.int .u32 (q : Int)) ∧ wx.cell? ⟨w3.heap.size, 2, none⟩ = some (.int .u32 (t : Int)) ∧ wx.cell? ⟨w3.heap.size, 3, none⟩ = some (.slice none 0 0) ∧ (∀ o, wx.frozen? ⟨w3.heap.size, o, none⟩ = false) ∧ Within w3 wx))
  case first =>
    have h2 := HH.out
    refine wp_region_schG (fun W => SlAt W (some ad) (u8v l) ∧ W.heap.size = w3.heap.size ∧ Within w3 W) 14 (.firm 0 (.firm 1 (.firm 2 (.firm 3 (.firm 4 (.firm 5 (.firm 8 (.firm 9 (.two 6 (.firm 7 (.two 10 (.firm 11 (.firm 12 (.one 13 (.one 14 .nil)))) 13 (.one 10 (.firm 11 (.firm 12 (.one 14 .nil)))))) 13 (.one 6 (.firm 7 (.one 10 (.firm 11 (.firm 12 (.one 14 .nil))))))))))))))) (by kernel_rfl) (by kernel_rfl) ⟨HR.out.of ((Within.refl w).alloc _ |>.trans hb3), rfl, Within.refl _⟩ ?_
    rintro w0 ⟨hs0, hz1, hw0⟩
    try simp only [Act.put, List.setIfInBounds_toArray, List.set_cons_zero, List.set_cons_succ]
    iterate 8
      apply sch_firm rfl rfl (by repeat (first | with_reducible exact Within.refl _ | with_reducible assumption | with_reducible refine Within.alloc ?_ _ | with_reducible refine Within.drew ?_ | with_reducible refine Within.drewN ?_ _ | with_reducible refine Within.setCell ?_ (by first | (simp; done) | (simp; omega)) _ | with_reducible refine Within.trans ?_ (by assumption)))
      · intro wq hq
        have hcq := hq.cells
        have hcell := h2 _ (hs0.of hq)
        clear hq
        go_simp
        rfl
      try simp only [Act.put, List.setIfInBounds_toArray, List.set_cons_zero, List.set_cons_succ]
    refine sch_two rfl rfl rfl rfl (fun K hK => ?_) (fun K hK => ?_)
    · go_simp
      refine (GQ.out _ (by first | exact hs0 | exact hs0.of ((Within.refl _).drew) | exact hs0.of (((Within.refl _).drew).alloc _))).mono ?_; rintro e4 w4 ⟨rfl, rfl⟩
      refine hK _ _ (by repeat (first | with_reducible exact Within.refl _ | with_reducible assumption | with_reducible refine Within.alloc ?_ _ | with_reducible refine Within.drew ?_ | with_reducible refine Within.drewN ?_ _ | with_reducible refine Within.setCell ?_ (by first | (simp; done) | (simp; omega)) _ | with_reducible refine Within.trans ?_ (by assumption))) ?_
      clear hK K
      try simp only [Act.put, List.setIfInBounds_toArray, List.set_cons_zero, List.set_cons_succ]
      apply sch_firm rfl rfl (by repeat (first | with_reducible exact Within.refl _ | with_reducible assumption | with_reducible refine Within.alloc ?_ _ | with_reducible refine Within.drew ?_ | with_reducible refine Within.drewN ?_ _ | with_reducible refine Within.setCell ?_ (by first | (simp; done) | (simp; omega)) _ | with_reducible refine Within.trans ?_ (by assumption)))
      · intro wq hq
        have hcq := hq.cells
        have hcell := h2 _ (hs0.of hq)
        clear hq
        go_simp
        rfl
      try simp only [Act.put, List.setIfInBounds_toArray, List.set_cons_zero, List.set_cons_succ]
      refine sch_two rfl rfl rfl rfl (fun K hK => ?_) (fun K hK => ?_)
      · go_simp
        refine (GT4.out _ (by first | exact hs0 | exact hs0.of ((Within.refl _).drew) | exact hs0.of (((Within.refl _).drew).alloc _))).mono ?_; rintro e5 w5 ⟨rfl, rfl⟩
        refine hK _ _ (by repeat (first | with_reducible exact Within.refl _ | with_reducible assumption | with_reducible refine Within.alloc ?_ _ | with_reducible refine Within.drew ?_ | with_reducible refine Within.drewN ?_ _ | with_reducible refine Within.setCell ?_ (by first | (simp; done) | (simp; omega)) _ | with_reducible refine Within.trans ?_ (by assumption))) ?_
        clear hK K
        try simp only [Act.put, List.setIfInBounds_toArray, List.set_cons_zero, List.set_cons_succ]
        iterate 2
          apply sch_firm rfl rfl (by repeat (first | with_reducible exact Within.refl _ | with_reducible assumption | with_reducible refine Within.alloc ?_ _ | with_reducible refine Within.drew ?_ | with_reducible refine Within.drewN ?_ _ | with_reducible refine Within.setCell ?_ (by first | (simp; done) | (simp; omega)) _ | with_reducible refine Within.trans ?_ (by assumption)))
          · intro wq hq
            have hcq := hq.cells
            have hcell := h2 _ (hs0.of hq)
            clear hq
            go_simp
            rfl
          try simp only [Act.put, List.setIfInBounds_toArray, List.set_cons_zero, List.set_cons_succ]
        refine sch_one rfl rfl (fun K hK => ?_)
        go_simp
        refine hK _ _ (fun _ => (by repeat (first | with_reducible exact Within.refl _ | with_reducible assumption | with_reducible refine Within.alloc ?_ _ | with_reducible refine Within.drew ?_ | with_reducible refine Within.drewN ?_ _ | with_reducible refine Within.setCell ?_ (by first | (simp; done) | (simp; omega)) _ | with_reducible refine Within.trans ?_ (by assumption)))) ?_
        clear hK K
        try simp only [Act.put, List.setIfInBounds_toArray, List.set_cons_zero, List.set_cons_succ]
        refine sch_one rfl rfl (fun K hK => ?_)
        go_simp
        refine hK _ _ (fun h => absurd h (by decide)) ?_
        clear hK K
        try simp only [Act.put, List.setIfInBounds_toArray, List.set_cons_zero, List.set_cons_succ]
        refine sch_nil ?_
        go_wp2_with fail
        go_meet
        exact ⟨rfl, by go_simp, by go_simp, by go_simp, by go_simp, fun o => by go_simp, (by repeat (first | with_reducible exact Within.refl _ | with_reducible assumption | with_reducible refine Within.alloc ?_ _ | with_reducible refine Within.drew ?_ | with_reducible refine Within.drewN ?_ _ | with_reducible refine Within.setCell ?_ (by first | (simp; done) | (simp; omega)) _ | with_reducible refine Within.trans ?_ (by assumption)))⟩
      · go_simp
        refine hK _ _ (by repeat (first | with_reducible exact Within.refl _ | with_reducible assumption | with_reducible refine Within.alloc ?_ _ | with_reducible refine Within.drew ?_ | with_reducible refine Within.drewN ?_ _ | with_reducible refine Within.setCell ?_ (by first | (simp; done) | (simp; omega)) _ | with_reducible refine Within.trans ?_ (by assumption))) ?_
        clear hK K
        try simp only [Act.put, List.setIfInBounds_toArray, List.set_cons_zero, List.set_cons_succ]
        refine sch_one rfl rfl (fun K hK => ?_)
        go_simp
        refine (GT4.out _ (by first | exact hs0 | exact hs0.of ((Within.refl _).drew) | exact hs0.of (((Within.refl _).drew).alloc _))).mono ?_; rintro e5 w5 ⟨rfl, rfl⟩
        refine hK _ _ (fun _ => (by repeat (first | with_reducible exact Within.refl _ | with_reducible assumption | with_reducible refine Within.alloc ?_ _ | with_reducible refine Within.drew ?_ | with_reducible refine Within.drewN ?_ _ | with_reducible refine Within.setCell ?_ (by first | (simp; done) | (simp; omega)) _ | with_reducible refine Within.trans ?_ (by assumption)))) ?_
        clear hK K
        try simp only [Act.put, List.setIfInBounds_toArray, List.set_cons_zero, List.set_cons_succ]
        iterate 2
          apply sch_firm rfl rfl (by repeat (first | with_reducible exact Within.refl _ | with_reducible assumption | with_reducible refine Within.alloc ?_ _ | with_reducible refine Within.drew ?_ | with_reducible refine Within.drewN ?_ _ | with_reducible refine Within.setCell ?_ (by first | (simp; done) | (simp; omega)) _ | with_reducible refine Within.trans ?_ (by assumption)))
          · intro wq hq
            have hcq := hq.cells
            have hcell := h2 _ (hs0.of hq)
            clear hq
            go_simp
            rfl
          try simp only [Act.put, List.setIfInBounds_toArray, List.set_cons_zero, List.set_cons_succ]
        refine sch_one rfl rfl (fun K hK => ?_)
        go_simp
        refine hK _ _ (fun h => absurd h (by decide)) ?_
        clear hK K
        try simp only [Act.put, List.setIfInBounds_toArray, List.set_cons_zero, List.set_cons_succ]
        refine sch_nil ?_
        go_wp2_with fail
        go_meet
        exact ⟨rfl, by go_simp, by go_simp, by go_simp, by go_simp, fun o => by go_simp, (by repeat (first | with_reducible exact Within.refl _ | with_reducible assumption | with_reducible refine Within.alloc ?_ _ | with_reducible refine Within.drew ?_ | with_reducible refine Within.drewN ?_ _ | with_reducible refine Within.setCell ?_ (by first | (simp; done) | (simp; omega)) _ | with_reducible refine Within.trans ?_ (by assumption)))⟩
    · go_simp
      refine hK _ _ (by repeat (first | with_reducible exact Within.refl _ | with_reducible assumption | with_reducible refine Within.alloc ?_ _ | with_reducible refine Within.drew ?_ | with_reducible refine Within.drewN ?_ _ | with_reducible refine Within.setCell ?_ (by first | (simp; done) | (simp; omega)) _ | with_reducible refine Within.trans ?_ (by assumption))) ?_
      clear hK K
      try simp only [Act.put, List.setIfInBounds_toArray, List.set_cons_zero, List.set_cons_succ]
      refine sch_one rfl rfl (fun K hK => ?_)
      go_simp
      refine (GQ.out _ (by first | exact hs0 | exact hs0.of ((Within.refl _).drew) | exact hs0.of (((Within.refl _).drew).alloc _))).mono ?_; rintro e4 w4 ⟨rfl, rfl⟩
      refine hK _ _ (fun _ => (by repeat (first | with_reducible exact Within.refl _ | with_reducible assumption | with_reducible refine Within.alloc ?_ _ | with_reducible refine Within.drew ?_ | with_reducible refine Within.drewN ?_ _ | with_reducible refine Within.setCell ?_ (by first | (simp; done) | (simp; omega)) _ | with_reducible refine Within.trans ?_ (by assumption)))) ?_
      clear hK K
      try simp only [Act.put, List.setIfInBounds_toArray, List.set_cons_zero, List.set_cons_succ]
      apply sch_firm rfl rfl (by repeat (first | with_reducible exact Within.refl _ | with_reducible assumption | with_reducible refine Within.alloc ?_ _ | with_reducible refine Within.drew ?_ | with_reducible refine Within.drewN ?_ _ | with_reducible refine Within.setCell ?_ (by first | (simp; done) | (simp; omega)) _ | with_reducible refine Within.trans ?_ (by assumption)))
      · intro wq hq
        have hcq := hq.cells
        have hcell := h2 _ (hs0.of hq)
        clear hq
        go_simp
        rfl
      try simp only [Act.put, List.setIfInBounds_toArray, List.set_cons_zero, List.set_cons_succ]
      refine sch_one rfl rfl (fun K hK => ?_)
      go_simp
      refine (GT4.out _ (by first | exact hs0 | exact hs0.of ((Within.refl _).drew) | exact hs0.of (((Within.refl _).drew).alloc _))).mono ?_; rintro e5 w5 ⟨rfl, rfl⟩
      refine hK _ _ (fun _ => (by repeat (first | with_reducible exact Within.refl _ | with_reducible assumption | with_reducible refine Within.alloc ?_ _ | with_reducible refine Within.drew ?_ | with_reducible refine Within.drewN ?_ _ | with_reducible refine Within.setCell ?_ (by first | (simp; done) | (simp; omega)) _ | with_reducible refine Within.trans ?_ (by assumption)))) ?_
      clear hK K
      try simp only [Act.put, List.setIfInBounds_toArray, List.set_cons_zero, List.set_cons_succ]
      iterate 2
        apply sch_firm rfl rfl (by repeat (first | with_reducible exact Within.refl _ | with_reducible assumption | with_reducible refine Within.alloc ?_ _ | with_reducible refine Within.drew ?_ | with_reducible refine Within.drewN ?_ _ | with_reducible refine Within.setCell ?_ (by first | (simp; done) | (simp; omega)) _ | with_reducible refine Within.trans ?_ (by assumption)))
        · intro wq hq
          have hcq := hq.cells
          have hcell := h2 _ (hs0.of hq)
          clear hq
          go_simp
          rfl
        try simp only [Act.put, List.setIfInBounds_toArray, List.set_cons_zero, List.set_cons_succ]
      refine sch_one rfl rfl (fun K hK => ?_)
      go_simp
      refine hK _ _ (fun h => absurd h (by decide)) ?_
      clear hK K
      try simp only [Act.put, List.setIfInBounds_toArray, List.set_cons_zero, List.set_cons_succ]
      refine sch_nil ?_
      go_wp2_with fail
      go_meet
      exact ⟨rfl, by go_simp, by go_simp, by go_simp, by go_simp, fun o => by go_simp, (by repeat (first | with_reducible exact Within.refl _ | with_reducible assumption | with_reducible refine Within.alloc ?_ _ | with_reducible refine Within.drew ?_ | with_reducible refine Within.drewN ?_ _ | with_reducible refine Within.setCell ?_ (by first | (simp; done) | (simp; omega)) _ | with_reducible refine Within.trans ?_ (by assumption)))⟩
  case rest =>
    obtain ⟨rfl, r0, r1, r2, r3, rf, hw6⟩ := hcut
    have hsl3 : SlAt w3 (some ad) (u8v l) := HR.out.of ((Within.refl w).alloc _ |>.trans hb3)
    have k3 := HH3.out _ (hsl3.of hw6)
    go_wp2
    go_loopw [8] (fun vv wr => UnRel w3 d false n S q t vv wr) (fun vv _ => restLen vv)
    case atStart =>
      refine ⟨0, some ⟨ad.block, ad.off + 12, none⟩, c - 12, [], .slice none 0 0, Nat.zero_le _, ?_, ?_, ?_, rfl, (fun x hx => by cases hx), OwnF.nil_ _ _, r0, r1, r2, r3, rf, hw6⟩
      · rw [show stp false * (n - 0) = m - 12 by have := HMN.out; unfold stp; simp; omega]
      · have := HMN.out; unfold stp; simp; omega
      · rw [Nat.mul_zero, List.drop_zero, HD.out]
        have h1 := (hsl3.drop 12).take (4 * n)
        rw [add_plain' ad (by decide)] at h1
        unfold u8v at h1 ⊢; rwa [← List.map_drop, ← List.map_take] at h1
    case round =>
      obtain ⟨k, A', c', vs, sl, hk, rfl, hc', hat, hvs, hwv, hown, p0, p1, p2, p3, pf', hin⟩ := hrel
      have HVS := Lib.hid hvs; have HWV := Lib.hid hwv; clear hvs hwv
      have hvl : vs.length = k := by have := congrArg List.length HVS.out; rwa [List.length_map, List.length_map, rdVals_len] at this
      have hRz : w3.heap.size < wr.heap.size := World.block_lt_of_cell? wr _ p0
      obtain ⟨As, cs, rfl, _, hsat, _⟩ := hown.form
      have HOW := Lib.hid hown; have HVL := Lib.hid hvl; clear hown hvl
      have HPF := Lib.hid pf'; clear pf'
      by_cases hlt : k < n
      · obtain ⟨j, hj⟩ : ∃ j, n = k + 1 + j := ⟨n - (k + 1), by omega⟩
        have e1 : stp false * (n - k) = 4 * j + 4 := by unfold stp; simp; omega
        have e2 : stp false * (n - (k + 1)) = 4 * j := by unfold stp; simp; omega
        rw [e1] at hc' ⊢
        obtain ⟨a', rfl, hblk, hcl⟩ := hat (by rw [u8v_len, List.length_drop, HDL.out]; unfold stp; simp; omega)
        obtain ⟨D, hD⟩ : ∃ D, D = d.drop (stp false * k) := ⟨_, rfl⟩
        have hDl : 4 ≤ D.length := by rw [hD, List.length_drop, HDL.out]; unfold stp; simp; omega
        have hDb : Bytes D := by rw [hD]; exact HBD.out.drop _
        rw [← hD] at hat
        have hTl : (D.take 4).length = 4 := by rw [List.length_take]; omega
        obtain ⟨X, hX⟩ : ∃ X, X = leVal (D.take 4) := ⟨_, rfl⟩
        have hX2 : X < 2 ^ 32 := by rw [hX]; have := leVal_lt (hDb.take 4); rwa [hTl] at this
        have GV : Hid (∀ wx, SlAt wx (some a') (u8v D) → Calls Tryz.prog 66 #[.slice (some a') 4 c'] wx fun e w' => e = .returned (.int .u64 (X : Int)) ∧ wx = w') := Lib.hid (fun wx hx => by
          have h1 : SlAt wx (some a') (u8v (D.take 4)) := by have := hx.take 4; unfold u8v at this ⊢; rwa [← List.map_take] at this
          have := get_any (some a') c' (D.take 4) (hDb.take 4) (by rw [hTl]; decide) wx h1
          rwa [hTl, ← hX] at this)
        have l8c : (4 : Int) ≤ (c' : Int) := by omega
        have hX2' : X < 4294967296 := by omega
        have hcv : ∀ w, (convert 112 68 (.float .f32 X)).run Tryz.prog w = .ok (.float .f64 (wideV X w)) (wideW X w) := fun w => conv_wide (by kernel_rfl) (by kernel_rfl) X hX2' w
        have gX : IntKind.u32.wrap (X : Int) = (X : Int) := by rw [IntKind.wrap_u32]; omega
        clear hX2'
        have HN := Lib.hid hj; have HE2 := Lib.hid e2; have HDD := Lib.hid hD; have HDB := Lib.hid hDb; have HDL2 := Lib.hid hDl; have HXX := Lib.hid hX; have HX2 := Lib.hid hX2
        clear hj e1 e2 hD hDl hDb hTl hX hX2
        have hat0 := hat.of hin
        have hpb : ∀ b : Bool, b = decide (c' = 4) → True := fun _ _ => trivial
        rcases Decidable.em (c' = 4) with rfl | hc8'
        all_goals
          go_wp2
          refine wp_region_schB ((w3.heap.size + 1)) (fun W => W.cell? ⟨w3.heap.size, 0, none⟩ = some (.int .i64 (S : Int)) ∧ W.cell? ⟨w3.heap.size, 1, none⟩ = some (.int .u32 (q : Int)) ∧ W.cell? ⟨w3.heap.size, 2, none⟩ = some (.int .u32 (t : Int)) ∧ W.cell? ⟨w3.heap.size, 3, none⟩ = some (.slice As vs.length cs) ∧ SlAt W (some a') (u8v D) ∧ OwnF W (w3.heap.size + 1) (.slice As vs.length cs) vs ∧ w3.heap.size < W.heap.size ∧ w3.heap.size + 1 ≤ W.heap.size ∧ Within w3 W ∧ (∀ o, W.frozen? ⟨w3.heap.size, o, none⟩ = false)) 11 (.firm 0 (.firm 1 (.firm 2 (.firm 3 (.one 4 (.firm 5 (.one 6 (.one 7 (.one 8 (.one 9 (.firm 10 (.one 11 .nil)))))))))))) (by kernel_rfl) (by kernel_rfl) ⟨p0, p1, p2, p3, hat0, HOW.out, hRz, hRz, hin, HPF.out⟩ ?_
          rintro w0 ⟨b0, b1, b2, b3, hs0, ho0, hz0, hz1, hw0, hf0⟩
          have hWW : Below (w3.heap.size + 1) w0 (wideW X w0.drew) := Below.trans ((Below.refl _ _).drew) ((wideW_in w0.drew).mono (show _ ≤ w0.heap.size from hz1))
          have hWz : w3.heap.size + 1 ≤ (wideW X w0.drew).heap.size := Nat.le_trans hz1 hWW.size
          obtain ⟨v1, w1, hrun, hown1, hbl2⟩ := run_app_float (wideW X w0.drew) (w3.heap.size + 1) _ vs (wideV X w0.drew) (ho0.of (Within.trans ((Within.refl _).drew) (wideW_in _))) (by have := HVL.out; omega) hWz
          have hbl1 : Below (w3.heap.size + 1) w0 w1 := Below.trans hWW hbl2
          obtain ⟨A1, c1, hv1, _⟩ := hown1.form
          obtain ⟨N1, hN1⟩ : ∃ N1, N1 = (vs ++ [wideV X w0.drew]).length := ⟨_, rfl⟩
          rw [← hN1] at hv1
          subst hv1
          have RUN := Lib.hid hrun; clear hrun
          have g0 : w1.cell? ⟨w3.heap.size, 0, none⟩ = some (.int .i64 (S : Int)) := (hbl1.cell (p := ⟨w3.heap.size, 0, none⟩) (Nat.lt_succ_self _)).trans b0
          have g1 : w1.cell? ⟨w3.heap.size, 1, none⟩ = some (.int .u32 (q : Int)) := (hbl1.cell (p := ⟨w3.heap.size, 1, none⟩) (Nat.lt_succ_self _)).trans b1
          have g2 : w1.cell? ⟨w3.heap.size, 2, none⟩ = some (.int .u32 (t : Int)) := (hbl1.cell (p := ⟨w3.heap.size, 2, none⟩) (Nat.lt_succ_self _)).trans b2
          have g3 : w1.cell? ⟨w3.heap.size, 3, none⟩ = some (.slice As vs.length cs) := (hbl1.cell (p := ⟨w3.heap.size, 3, none⟩) (Nat.lt_succ_self _)).trans b3
          have gf : ∀ o, w1.frozen? ⟨w3.heap.size, o, none⟩ = false := fun o => (hbl1.frozen (p := ⟨w3.heap.size, o, none⟩) (Nat.lt_succ_self _)).trans (hf0 o)
          try simp only [Act.put, List.setIfInBounds_toArray, List.set_cons_zero, List.set_cons_succ]
          iterate 4
            apply sch_firm rfl rfl (by repeat (first | with_reducible exact Below.refl _ _ | with_reducible assumption | with_reducible refine Below.drew ?_ | with_reducible refine Below.alloc ?_ (by first | assumption | (simp; omega)) _ | with_reducible refine Below.trans ?_ (by assumption)))
            · intro wq hq
              have hcq : ∀ b o, b < (w3.heap.size + 1) → wq.cell? ⟨b, o, none⟩ = w0.cell? ⟨b, o, none⟩ := fun b o hb => hq.cell (p := ⟨b, o, none⟩) hb
              clear hq
              go_simp
              rfl
            try simp only [Act.put, List.setIfInBounds_toArray, List.set_cons_zero, List.set_cons_succ]
          refine sch_one rfl rfl (fun K hK => ?_)
          go_simp
          refine (GV.out _ (by exact hs0.of ((Within.refl _).drew))).mono ?_; rintro e5 w5 ⟨rfl, rfl⟩
          refine hK _ _ (fun _ => (by repeat (first | with_reducible exact Below.refl _ _ | with_reducible assumption | with_reducible refine Below.drew ?_ | with_reducible refine Below.alloc ?_ (by first | assumption | (simp; omega)) _ | with_reducible refine Below.trans ?_ (by assumption)))) ?_
          clear hK K
          try simp only [Act.put, List.setIfInBounds_toArray, List.set_cons_zero, List.set_cons_succ]
          apply sch_firm rfl rfl (by repeat (first | with_reducible exact Below.refl _ _ | with_reducible assumption | with_reducible refine Below.drew ?_ | with_reducible refine Below.alloc ?_ (by first | assumption | (simp; omega)) _ | with_reducible refine Below.trans ?_ (by assumption)))
          · intro wq hq
            have hcq : ∀ b o, b < (w3.heap.size + 1) → wq.cell? ⟨b, o, none⟩ = w0.cell? ⟨b, o, none⟩ := fun b o hb => hq.cell (p := ⟨b, o, none⟩) hb
            clear hq
            go_simp
            rfl
          try simp only [Act.put, List.setIfInBounds_toArray, List.set_cons_zero, List.set_cons_succ]
          refine sch_one rfl rfl (fun K hK => ?_)
          go_simp
          refine hK _ _ (fun _ => (by repeat (first | with_reducible exact Below.refl _ _ | with_reducible assumption | with_reducible refine Below.drew ?_ | with_reducible refine Below.alloc ?_ (by first | assumption | (simp; omega)) _ | with_reducible refine Below.trans ?_ (by assumption)))) ?_
          clear hK K
          try simp only [Act.put, List.setIfInBounds_toArray, List.set_cons_zero, List.set_cons_succ]
          refine sch_one rfl rfl (fun K hK => ?_)
          go_simp
          refine hK _ _ (fun _ => (by repeat (first | with_reducible exact Below.refl _ _ | with_reducible assumption | with_reducible refine Below.drew ?_ | with_reducible refine Below.alloc ?_ (by first | assumption | (simp; omega)) _ | with_reducible refine Below.trans ?_ (by assumption)))) ?_
          clear hK K
          try simp only [Act.put, List.setIfInBounds_toArray, List.set_cons_zero, List.set_cons_succ]
          refine sch_one rfl rfl (fun K hK => ?_)
          go_simp
          refine hK _ _ (fun _ => (by repeat (first | with_reducible exact Below.refl _ _ | with_reducible assumption | with_reducible refine Below.drew ?_ | with_reducible refine Below.alloc ?_ (by first | assumption | (simp; omega)) _ | with_reducible refine Below.trans ?_ (by assumption)))) ?_
          clear hK K
          try simp only [Act.put, List.setIfInBounds_toArray, List.set_cons_zero, List.set_cons_succ]
          refine sch_one rfl rfl (fun K hK => ?_)
          refine op_append_run (.tmp 79) (.tmp 86) 62 rfl _ _ rfl rfl RUN.out ?_
          refine hK _ _ (fun _ => (by repeat (first | with_reducible exact Below.refl _ _ | with_reducible assumption | with_reducible refine Below.drew ?_ | with_reducible refine Below.alloc ?_ (by first | assumption | (simp; omega)) _ | with_reducible refine Below.trans ?_ (by assumption)))) ?_
          clear hK K
          try simp only [Act.put, List.setIfInBounds_toArray, List.set_cons_zero, List.set_cons_succ]
          apply sch_firm rfl rfl (by repeat (first | with_reducible exact Below.refl _ _ | with_reducible assumption | with_reducible refine Below.drew ?_ | with_reducible refine Below.alloc ?_ (by first | assumption | (simp; omega)) _ | with_reducible refine Below.trans ?_ (by assumption)))
          · intro wq hq
            have hcq : ∀ b o, b < (w3.heap.size + 1) → wq.cell? ⟨b, o, none⟩ = w0.cell? ⟨b, o, none⟩ := fun b o hb => hq.cell (p := ⟨b, o, none⟩) hb
            clear hq
            go_simp
            rfl
          try simp only [Act.put, List.setIfInBounds_toArray, List.set_cons_zero, List.set_cons_succ]
          refine sch_one rfl rfl (fun K hK => ?_)
          go_simp
          refine hK _ _ (fun h => absurd h (by decide)) ?_
          clear hK K
          try simp only [Act.put, List.setIfInBounds_toArray, List.set_cons_zero, List.set_cons_succ]
          refine sch_nil ?_
          go_wp2
          rw [List.length_append, List.length_singleton] at hN1; subst hN1
          have hlt' := hlt; have hnj := HN.out; have hd1 := HDL.out; have hdl2 := HDL2.out
          have hWin : Within w3 w1 := Below.trans hw0 (hbl1.mono (Nat.le_succ _))
          have hXc : canonD (wideV X w0.drew) = canonD (if false = true then leVal ((d.drop (stp false * k)).take 8) else pf.wb (leVal ((d.drop (stp false * k)).take 4))) := by rw [wideV_canon (by have := HX2.out; omega), HXX.out, HDD.out]; rw [if_neg (by decide)]; exact wide_canon.symm
        · have hj0 : j = 0 := by omega
          subst hj0
          have E2 : stp false * (n - (k + 1)) = 0 := HE2.out
          have hst := UnRel.step (A1 := some a') (c1 := 0) hlt (Nat.le_of_eq E2) (by rw [List.drop_eq_nil_of_le (by rw [hd1, hnj]; unfold stp; simp)]; exact SlAt.nil) HVS.out hXc (wideV_lt (by have := HX2.out; omega) _) HWV.out hown1 g0 g1 g2 (by rw [g3]; rfl) gf hWin
          rw [E2] at hst
          exact ⟨hst, by simp [restLen]⟩
        · have E2 : stp false * (n - (k + 1)) = 4 * j := HE2.out
          have hat8 : SlAt w3 (some ⟨a'.block, a'.off + 4, none⟩) (u8v (d.drop (stp false * (k + 1)))) := by
            have h1 := hat.drop 4
            rw [add_plain' a' (by decide), HDD.out] at h1
            unfold u8v at h1 ⊢; rw [← List.map_drop, List.drop_drop] at h1
            rwa [show stp false * (k + 1) = stp false * k + 4 by rw [Nat.mul_add]; rfl]
          have hst := UnRel.step hlt (c1 := c' - 4) (by rw [E2]; omega) hat8 HVS.out hXc (wideV_lt (by have := HX2.out; omega) _) HWV.out hown1 g0 g1 g2 (by rw [g3]; rfl) gf hWin
          rw [E2] at hst
          exact ⟨hst, by simp [restLen]⟩
      · have hkn : k = n := by omega
        subst hkn
        rw [show stp false * (k - k) = 0 by simp]
        have hfe : vs.all finD = fb := (map_all (fun _ _ h => finD_same h) HVS.out).trans HFB.out
        have hse : vs.all isSD = sb := (map_all (fun _ _ h => isSD_same h) HVS.out).trans HSB.out
        have hWw : Within w wr := (((Within.refl w).alloc _).trans hb3).trans hin
        have FN := Finite_any As cs vs HWV.out (by have := HVL.out; omega) wr hsat
        rw [hfe] at FN
        have SGL : Hid (∀ wx, Within wr wx → Calls Tryz.prog 71 #[.agg #[.int .i64 (S : Int), .int .u32 (q : Int), .int .u32 (t : Int), .slice As vs.length cs]] wx fun e w' => e = .returned (.bool sb) ∧ Within wx w') := Lib.hid (fun wx hx => by
          have := Singles_any As cs (.int .i64 (S : Int)) (.int .u32 (q : Int)) (.int .u32 (t : Int)) vs HWV.out (by have := HVL.out; omega) wx ((hT.of hWw).of hx) (hsat.of hx)
          rwa [hse] at this)
        have HFN := Lib.hid FN; clear FN
        have hqz3 : w.heap.size < w3.heap.size + 1 := Nat.lt_succ_of_lt qz
        have qzr : w.heap.size < wr.heap.size := Nat.lt_of_lt_of_le qz hin.size
        have qr0 : wr.cell? ⟨w.heap.size, 0, none⟩ = some (.int .i64 0) := (hin.cells _ _ qz).trans q0
        have qr1 : wr.cell? ⟨w.heap.size, 1, none⟩ = some (.int .u32 0) := (hin.cells _ _ qz).trans q1
        have qr2 : wr.cell? ⟨w.heap.size, 2, none⟩ = some (.int .u32 0) := (hin.cells _ _ qz).trans q2
        have qr3 : wr.cell? ⟨w.heap.size, 3, none⟩ = some (.slice none 0 0) := (hin.cells _ _ qz).trans q3
        have qrf : ∀ o, wr.frozen? ⟨w.heap.size, o, none⟩ = false := fun o => (hin.frozens _ _ qz).trans (qf o)
        have HFE := Lib.hid hfe; clear hfe hse
        go_wp2_with fail
        refine HFN.out.mono ?_; rintro e5 w5 ⟨rfl, hw5⟩
        have p50 : w5.cell? ⟨w3.heap.size, 0, none⟩ = some (.int .i64 (S : Int)) := (hw5.cells _ _ hRz).trans p0
        have p51 : w5.cell? ⟨w3.heap.size, 1, none⟩ = some (.int .u32 (q : Int)) := (hw5.cells _ _ hRz).trans p1
        have p52 : w5.cell? ⟨w3.heap.size, 2, none⟩ = some (.int .u32 (t : Int)) := (hw5.cells _ _ hRz).trans p2
        have p53 : w5.cell? ⟨w3.heap.size, 3, none⟩ = some (.slice As vs.length cs) := (hw5.cells _ _ hRz).trans p3
        have z50 : w5.cell? ⟨w.heap.size, 0, none⟩ = some (.int .i64 0) := (hw5.cells _ _ qzr).trans qr0
        have z51 : w5.cell? ⟨w.heap.size, 1, none⟩ = some (.int .u32 0) := (hw5.cells _ _ qzr).trans qr1
        have z52 : w5.cell? ⟨w.heap.size, 2, none⟩ = some (.int .u32 0) := (hw5.cells _ _ qzr).trans qr2
        have z53 : w5.cell? ⟨w.heap.size, 3, none⟩ = some (.slice none 0 0) := (hw5.cells _ _ qzr).trans qr3
        have z5f : ∀ o, w5.frozen? ⟨w.heap.size, o, none⟩ = false := fun o => (hw5.frozens _ _ qzr).trans (qrf o)
        have hRz5 : w3.heap.size < w5.heap.size := Nat.lt_of_lt_of_le hRz hw5.size
        have qz5 : w.heap.size < w5.heap.size := Nat.lt_of_lt_of_le qzr hw5.size
        have hW5 : Within w w5 := hWw.trans hw5
        cases fb
        · go_wp2
          have E := HER.out; have R := HRD.out
          simp at E; subst E; simp at R; subst R
          refine bodyPost_ret (v := .tuple #[.agg #[.int .i64 0, .int .u32 0, .int .u32 0, .slice none 0 0], .int .i64 211]) (by simp [results, Tryz.results46, go_sem, z50, z51, z52, z53]) rfl ⟨_, rfl, OwnF.nil_ _ _, (by repeat (first | with_reducible exact hW5 | with_reducible refine Within.setCell ?_ (Nat.le_refl _) _))⟩
        · go_wp2_with fail
          refine (SGL.out _ hw5).mono ?_; rintro e6 w6 ⟨rfl, hw6⟩
          have p60 : w6.cell? ⟨w3.heap.size, 0, none⟩ = some (.int .i64 (S : Int)) := (hw6.cells _ _ hRz5).trans p50
          have p61 : w6.cell? ⟨w3.heap.size, 1, none⟩ = some (.int .u32 (q : Int)) := (hw6.cells _ _ hRz5).trans p51
          have p62 : w6.cell? ⟨w3.heap.size, 2, none⟩ = some (.int .u32 (t : Int)) := (hw6.cells _ _ hRz5).trans p52
          have p63 : w6.cell? ⟨w3.heap.size, 3, none⟩ = some (.slice As vs.length cs) := (hw6.cells _ _ hRz5).trans p53
          have z60 : w6.cell? ⟨w.heap.size, 0, none⟩ = some (.int .i64 0) := (hw6.cells _ _ qz5).trans z50
          have z61 : w6.cell? ⟨w.heap.size, 1, none⟩ = some (.int .u32 0) := (hw6.cells _ _ qz5).trans z51
          have z62 : w6.cell? ⟨w.heap.size, 2, none⟩ = some (.int .u32 0) := (hw6.cells _ _ qz5).trans z52
          have z63 : w6.cell? ⟨w.heap.size, 3, none⟩ = some (.slice none 0 0) := (hw6.cells _ _ qz5).trans z53
          have z6f : ∀ o, w6.frozen? ⟨w.heap.size, o, none⟩ = false := fun o => (hw6.frozens _ _ qz5).trans (z5f o)
          have qz6 : w.heap.size < w6.heap.size := Nat.lt_of_lt_of_le qz5 hw6.size
          have hW6 : Within w w6 := hW5.trans hw6
          have HOW6 := Lib.hid ((HOW.out.of hw5).of hw6)
          cases sb
          · go_wp2
            have E := HER.out; have R := HRD.out
            simp at E; subst E; simp at R; subst R
            refine bodyPost_ret (v := .tuple #[.agg #[.int .i64 0, .int .u32 0, .int .u32 0, .slice none 0 0], .int .i64 211]) (by simp [results, Tryz.results46, go_sem, z60, z61, z62, z63]) rfl ⟨_, rfl, OwnF.nil_ _ _, (by repeat (first | with_reducible exact hW6 | with_reducible refine Within.setCell ?_ (Nat.le_refl _) _))⟩
          · go_wp2
            have E := HER.out; have R := HRD.out
            simp at E; subst E; simp at R; subst R
            refine bodyPost_ret (v := .tuple #[.agg #[.int .i64 (S : Int), .int .u32 (q : Int), .int .u32 (t : Int), .slice As vs.length cs], .int .i64 0]) (by simp [results, Tryz.results46, go_sem, z60, z61, z62, z63]) rfl ⟨_, rfl, ?_, (by repeat (first | with_reducible exact hW6 | with_reducible refine Within.setCell ?_ (Nat.le_refl _) _))⟩
            have hvv : vs = rdVals pf false k d := map_fin HVS.out HFE.out HFB.out
            rw [show (Rd.mk S q t (rdVals pf false k d)).vals = vs from hvv.symm]
            refine OwnF.less (base := w3.heap.size + 1) ?_ (Nat.le_of_lt hqz3)
            repeat (first | with_reducible exact HOW6.out | with_reducible refine OwnF.set ?_ hqz3 _)
end Go.Proofs.YtpmjlaiafgbjgaaGreatDoor
end

section
namespace Go.Proofs.YtpmjlaiafgbjgaaGreatDoor
open Go.RowKit
theorem rdVals_take (F : Fl) (wide : Bool) : ∀ (n : Nat) (v : List Nat), rdVals F wide n (v.take (stp wide * n)) = rdVals F wide n v
  | 0, _ => rfl
  | n + 1, v => by
    have e : ∀ u, rdVals F wide (n + 1) u = (if wide then leVal (u.take 8) else F.wb (leVal (u.take 4))) :: rdVals F wide n (u.drop (stp wide)) := fun u => by cases wide <;> rfl
    have hs : stp wide ≤ stp wide * (n + 1) := Nat.le_mul_of_pos_right _ (Nat.succ_pos _)
    have ht : ∀ k, k ≤ stp wide * (n + 1) → (v.take (stp wide * (n + 1))).take k = v.take k := fun k hk => by rw [List.take_take, Nat.min_eq_left hk]
    rw [e, e, List.drop_take, show stp wide * (n + 1) - stp wide = stp wide * n by rw [Nat.mul_succ]; omega, rdVals_take F wide n]
    congr 1
    cases wide
    · rw [if_neg (by decide), if_neg (by decide), ht 4 hs]
    · rw [if_pos rfl, if_pos rfl, ht 8 hs]
theorem bits_wide : ∀ K < 256, bits .and .u8 ((K : Nat) : Int) 128 = if 128 ≤ K then 128 else 0 := by decide +kernel
theorem RetR.bad {w : World} {er : Int} {e : Ending} {w' : World} (h : e = .returned (.tuple #[.agg #[.int .i64 0, .int .u32 0, .int .u32 0, .slice none 0 0], .int .i64 er]) ∧ Within w w') : RetR w noRd er e w' :=
  ⟨.slice none 0 0, h.1, OwnF.nil_ _ _, h.2⟩
def rdOf (b : List Nat) : Rd := if unpackE pf b = 0 then readB pf b else noRd
theorem rdOf_bad {b : List Nat} (h : unpackE pf b ≠ 0) : rdOf b = noRd := if_neg h
theorem E_head {b : List Nat} (h : headB b = false) : unpackE pf b = 211 := by
  unfold unpackE; rw [if_pos (by unfold sizeB; simp [h])]
theorem E_few {b : List Nat} (h : b.length < 4) : unpackE pf b = 211 := by
  unfold unpackE; rw [if_pos (by unfold sizeB; simp; intro h1; omega)]
theorem E_long {b : List Nat} (h : b.length ≠ szOf (b.getD 3 0)) : unpackE pf b = 211 := by
  unfold unpackE; rw [if_pos (by unfold sizeB; simp; intro _ _; simpa using h)]
theorem E_rest {b : List Nat} (h4 : 4 ≤ b.length) (hh : headB b = true) (hl : b.length = szOf (b.getD 3 0)) : unpackE pf b = if crcOf (b.take (b.length - 4)) ≠ leVal (b.drop (b.length - 4)) then 212
    else if (valsB pf b).all finD = false ∨ wideB b = (valsB pf b).all isSD then 211 else 0 := by
  unfold unpackE
  rw [if_neg (by unfold sizeB; rw [hh, decide_eq_true h4, decide_eq_true hl]; decide)]; rfl
theorem Unpack_any (A : Option Addr) (c : Nat) (l : List Nat) (hb : Bytes l) (hl : l.length ≤ 1152921504606846976) (hc : l.length ≤ c) (w : World) (hT : FmS w) (hr : SlAt w A (u8v l)) :
    Calls Tryz.prog 46 #[.slice A l.length c] w (RetR w (rdOf l) (unpackE pf l)) := by
  have SZ : Hid (∀ w, SlAt w A (u8v l) → Calls Tryz.prog 65 #[.slice A l.length c] w fun e w' => e = .returned (.tuple #[.int .i64 (szV l), .bool (headB l)]) ∧ w = w') := Lib.hid fun w hr => size_any A c l hb hl w hr
  cases hh : headB l
  · rw [rdOf_bad (by rw [E_head hh]; decide), E_head hh]
    rw [hh] at SZ
    exact (Unpack_head A c l _ SZ w hr).mono fun _ _ h => RetR.bad h
  rw [hh] at SZ
  by_cases h4 : l.length < 4
  · rw [rdOf_bad (by rw [E_few h4]; decide), E_few h4]
    exact (Unpack_few A c l _ h4 SZ w hr).mono fun _ _ h => RetR.bad h
  have h4' : 4 ≤ l.length := by omega
  have hsz : szV l = (szOf (l.getD 3 0) : Int) := by unfold szV; rw [hh, if_neg (by decide), if_neg (by omega)]
  by_cases hn : l.length = szOf (l.getD 3 0)
  case neg =>
    rw [rdOf_bad (by rw [E_long hn]; decide), E_long hn]
    exact (Unpack_long A c l _ h4' hl (by rw [hsz]; exact ne_of hn) SZ w hr).mono fun _ _ h => RetR.bad h
  obtain ⟨_, _, hS, hM⟩ := headB_parts hh
  have hK := hb.getD 3
  obtain ⟨K, hKK⟩ : ∃ K, K = l.getD 3 0 := ⟨_, rfl⟩
  obtain ⟨S, hSS⟩ : ∃ S, S = l.getD 2 0 := ⟨_, rfl⟩
  have hst := szOf_stp hK
  rw [← hKK] at hK hM hn hsz hst
  rw [← hSS] at hS
  obtain ⟨n, hnn⟩ : ∃ n, n = K % 128 := ⟨_, rfl⟩
  rw [← hnn] at hM hst
  obtain ⟨wide, hw⟩ : ∃ b, b = decide (128 ≤ K) := ⟨_, rfl⟩
  rw [← hw] at hst
  have hsn : stp wide * n ≤ 48 := by unfold stp; split <;> omega
  obtain ⟨m, hm⟩ : ∃ m, l.length = m + 4 := ⟨l.length - 4, by omega⟩
  have hmn : m = 12 + stp wide * n := by omega
  obtain ⟨ad, rfl, hblk, hcl⟩ := hr (by rw [u8v_len]; omega)
  have at_ : ∀ k, k < l.length → ∀ w, SlAt w (some ad) (u8v l) → w.cell? (ad.add k) = some (.int .u8 ((l.getD k 0 : Nat) : Int)) := fun k hk w hr => by
    obtain ⟨ad', e', _, hc⟩ := hr.at hk
    obtain rfl := Option.some.inj e'; exact hc
  have hE := E_rest h4' hh (by rw [← hKK]; exact hn)
  have hwB : wideB l = wide := by unfold wideB; rw [← hKK, hw]
  have hlen : l.length = 16 + stp wide * n := hn.trans hst
  have hd12 : (l.drop 12).length = stp wide * n + 4 := by rw [List.length_drop, hlen]; generalize stp wide * n = z; omega
  have hval : valsB pf l = rdVals pf wide n ((l.drop 12).take (stp wide * n)) := by
    rw [rdVals_take]; unfold valsB; rw [hwB, ← hKK, ← hnn]
  have hrd : readB pf l = ⟨S, leVal ((l.drop 4).take 4), leVal ((l.drop 8).take 4), rdVals pf wide n ((l.drop 12).take (stp wide * n))⟩ := by unfold readB; rw [hval, ← hSS]
  rw [hval, hwB, hm, Nat.add_sub_cancel] at hE
  have hG : leVal ((l.drop m).take 4) = leVal (l.drop m) := by rw [List.take_of_length_le (by rw [List.length_drop]; omega)]
  have GT : Hid (∀ w, SlAt w (some ad) (u8v l) → Calls Tryz.prog 66 #[.slice (some (ad.add m)) 4 (c - m)] w fun e w' => e = .returned (.int .u64 (leVal (l.drop m) : Int)) ∧ w = w') := Lib.hid fun w hr => by
    rw [← hG]; exact get_at ad c m 4 l hb (by decide) (by omega) _ w hr
  have SM : Hid (∀ w, SlAt w (some ad) (u8v l) → Calls Tryz.prog 67 #[.slice (some ad) m c] w fun e w' => e = .returned (.int .u32 (crcOf (l.take m) : Int)) ∧ w = w') := Lib.hid fun w hr => by
    have h1 : SlAt w (some ad) (u8v (l.take m)) := by have := hr.take m; unfold u8v at this ⊢; rwa [← List.map_take] at this
    have h2 := sum_any (some ad) c (l.take m) (hb.take m) (by rw [List.length_take]; omega) w h1
    rwa [List.length_take, show min m l.length = m by omega] at h2
  have SZ2 : Hid (∀ w, SlAt w (some ad) (u8v l) → Calls Tryz.prog 65 #[.slice (some ad) (m + 4) c] w fun e w' => e = .returned (.tuple #[.int .i64 ((m + 4 : Nat) : Int), .bool true]) ∧ w = w') := by
    rw [hsz, ← hn, hm] at SZ; exact SZ
  have GQ : ∀ k, k + 4 ≤ l.length → k ≠ 0 → Hid (∀ w, SlAt w (some ad) (u8v l) → Calls Tryz.prog 66 #[.slice (some ⟨ad.block, ad.off + k, none⟩) 4 (c - k)] w fun e w' => e = .returned (.int .u64 (leVal ((l.drop k).take 4) : Int)) ∧ w = w') := fun k hk h0 => Lib.hid fun w hr => by
    rw [← add_plain' ad h0]; exact get_at ad c k 4 l hb (by decide) hk _ w hr
  have lt4 : ∀ k, leVal ((l.drop k).take 4) < 4294967296 := fun k => by
    have := leVal_lt ((hb.drop k).take 4)
    refine Nat.lt_of_lt_of_le this (show _ ≤ 2 ^ 32 from Nat.pow_le_pow_right (by decide) (by rw [List.length_take]; omega))
  have hm1 : 12 ≤ m ∧ m ≤ 60 := by omega
  rw [hm] at hc ⊢
  by_cases hcs : crcOf (l.take m) = leVal (l.drop m)
  case neg =>
    rw [if_pos hcs] at hE
    rw [rdOf_bad (by rw [hE]; decide), hE]
    exact (Unpack_sum ad c m l hm1 hc SZ2 _ _ (crcOf_lt (hb.take m)) GT SM (ne_of (Ne.symm hcs)) w hr).mono fun _ _ h => RetR.bad h
  rw [if_neg (fun h => h hcs)] at hE
  have hs : ((leVal (l.drop m) : Int) != (crcOf (l.take m) : Int)) = false := eq_of' hcs.symm
  have h2 : ∀ w, SlAt w (some ad) (u8v l) → w.cell? ⟨ad.block, ad.off + 2, none⟩ = some (.int .u8 (S : Int)) := fun w hr => by rw [← add_plain' ad (by decide), hSS]; exact at_ 2 (by omega) w hr
  have h3 : ∀ w, SlAt w (some ad) (u8v l) → w.cell? ⟨ad.block, ad.off + 3, none⟩ = some (.int .u8 (K : Int)) := fun w hr => by rw [← add_plain' ad (by decide), hKK]; exact at_ 3 (by omega) w hr
  have hdl : ((l.drop 12).take (stp wide * n)).length = stp wide * n := by rw [List.length_take, hd12]; omega
  have hbK := bits_wide K hK
  have hrr : rdOf l = if unpackE pf l = 0 then ⟨S, leVal ((l.drop 4).take 4), leVal ((l.drop 8).take 4), rdVals pf wide n ((l.drop 12).take (stp wide * n))⟩ else noRd := by unfold rdOf; rw [hrd]
  cases wide
  · have hk : ¬ 128 ≤ K := of_decide_eq_false hw.symm
    rw [if_neg hk] at hbK
    exact Unpack_near ad c m l hm1 hc SZ2 _ _ (crcOf_lt (hb.take m)) GT SM S _ _ (by omega) (lt4 4) (lt4 8) (GQ 4 (by omega) (by decide)) (GQ 8 (by omega) (by decide)) h2 n K (by omega) hmn hbK h3 _ rfl ((hb.drop 12).take _) hdl _ _ rfl rfl _ hE _ hrr hs w hT hr
  · have hk : 128 ≤ K := of_decide_eq_true hw.symm
    rw [if_pos hk] at hbK
    exact Unpack_wide ad c m l hm1 hc SZ2 _ _ (crcOf_lt (hb.take m)) GT SM S _ _ (by omega) (lt4 4) (lt4 8) (GQ 4 (by omega) (by decide)) (GQ 8 (by omega) (by decide)) h2 n K (by omega) hmn hbK h3 _ rfl ((hb.drop 12).take _) hdl _ _ rfl rfl _ hE _ hrr hs w hT hr
end Go.Proofs.YtpmjlaiafgbjgaaGreatDoor
end

section
namespace Go.Proofs.YtpmjlaiafgbjgaaGreatDoor
open Go.RowKit
set_option maxRecDepth 100000 in
set_option maxHeartbeats 600000 in
theorem Runpack_few (A : Option Addr) (c : Nat) (l : List Nat) (h : decide ((l.length : Int) < 4) = true) (w : World) : Calls Tryz.prog 48 #[.slice A l.length c] w fun e w' => e = .returned (.tuple #[.agg #[.int .i64 0, .int .u32 0, .int .u32 0, .slice none 0 0], .int .i64 211]) ∧ Within w w' := by
  go_enter Tryz.func48, Tryz.ntmps48
  go_wp2
  refine bodyPost_ret (v := .tuple #[.agg #[.int .i64 0, .int .u32 0, .int .u32 0, .slice none 0 0], .int .i64 211]) (by simp [results, Tryz.results48, go_sem]) rfl ⟨rfl, (by repeat (first | with_reducible exact Within.refl _ | with_reducible assumption | with_reducible refine Within.alloc ?_ _ | with_reducible refine Within.drew ?_ | with_reducible refine Within.drewN ?_ _ | with_reducible refine Within.setCell ?_ (by first | (simp; done) | (simp; omega)) _ | with_reducible refine Within.trans ?_ (by assumption)))⟩
set_option maxRecDepth 100000 in
set_option maxHeartbeats 600000 in
theorem Runpack_head (A : Option Addr) (c : Nat) (l : List Nat) (h : decide ((l.length : Int) < 4) = false) (RH : Hid (∀ w, SlAt w A (u8v l) → Calls Tryz.prog 73 #[.slice A l.length c] w fun e w' => e = .returned (.bool false) ∧ w = w')) (w : World) (hr : SlAt w A (u8v l)) : Calls Tryz.prog 48 #[.slice A l.length c] w fun e w' => e = .returned (.tuple #[.agg #[.int .i64 0, .int .u32 0, .int .u32 0, .slice none 0 0], .int .i64 211]) ∧ Within w w' := by
  have HR := Lib.hid hr; clear hr
  go_enter Tryz.func48, Tryz.ntmps48
  go_wp2_with fail
  refine (RH.out _ (HR.out.of (by repeat (first | with_reducible exact Within.refl _ | with_reducible assumption | with_reducible refine Within.alloc ?_ _ | with_reducible refine Within.drew ?_ | with_reducible refine Within.drewN ?_ _ | with_reducible refine Within.setCell ?_ (by first | (simp; done) | (simp; omega)) _ | with_reducible refine Within.trans ?_ (by assumption))))).mono ?_; rintro e1 w1 ⟨rfl, rfl⟩
  go_wp2
  refine bodyPost_ret (v := .tuple #[.agg #[.int .i64 0, .int .u32 0, .int .u32 0, .slice none 0 0], .int .i64 211]) (by simp [results, Tryz.results48, go_sem]) rfl ⟨rfl, (by repeat (first | with_reducible exact Within.refl _ | with_reducible assumption | with_reducible refine Within.alloc ?_ _ | with_reducible refine Within.drew ?_ | with_reducible refine Within.drewN ?_ _ | with_reducible refine Within.setCell ?_ (by first | (simp; done) | (simp; omega)) _ | with_reducible refine Within.trans ?_ (by assumption)))⟩
set_option maxRecDepth 100000 in
set_option maxHeartbeats 600000 in
theorem Runpack_long (ad : Addr) (c N K : Nat) (l : List Nat) (h : decide ((N : Int) < 4) = false) (l3 : (3 : Int) < (N : Int)) (n : Int) (hn : ((N : Int) != n) = true) (RH : Hid (∀ w, SlAt w (some ad) (u8v l) → Calls Tryz.prog 73 #[.slice (some ad) N c] w fun e w' => e = .returned (.bool true) ∧ w = w')) (RS : Hid (∀ w, Calls Tryz.prog 74 #[.int .u8 (K : Int)] w fun e w' => e = .returned (.int .i64 n) ∧ w = w')) (h3 : ∀ w, SlAt w (some ad) (u8v l) → w.cell? ⟨ad.block, ad.off + 3, none⟩ = some (.int .u8 (K : Int))) (w : World) (hr : SlAt w (some ad) (u8v l)) : Calls Tryz.prog 48 #[.slice (some ad) N c] w fun e w' => e = .returned (.tuple #[.agg #[.int .i64 0, .int .u32 0, .int .u32 0, .slice none 0 0], .int .i64 211]) ∧ Within w w' := by
  have HR := Lib.hid hr; clear hr
  have HH3 := Lib.hid h3; clear h3
  go_enter Tryz.func48, Tryz.ntmps48
  go_wp2_with fail
  have hw1 := HR.out.of ((Within.refl w).alloc (.cells #[.int .i64 0, .int .u32 0, .int .u32 0, .slice none 0 0] 64))
  have k3 := HH3.out _ hw1
  refine (RH.out _ hw1).mono ?_; rintro e1 w1 ⟨rfl, rfl⟩
  go_wp2_with fail
  refine (RS.out _).mono ?_; rintro e2 w2 ⟨rfl, rfl⟩
  go_wp2
  refine bodyPost_ret (v := .tuple #[.agg #[.int .i64 0, .int .u32 0, .int .u32 0, .slice none 0 0], .int .i64 211]) (by simp [results, Tryz.results48, go_sem]) rfl ⟨rfl, (by repeat (first | with_reducible exact Within.refl _ | with_reducible assumption | with_reducible refine Within.alloc ?_ _ | with_reducible refine Within.drew ?_ | with_reducible refine Within.drewN ?_ _ | with_reducible refine Within.setCell ?_ (by first | (simp; done) | (simp; omega)) _ | with_reducible refine Within.trans ?_ (by assumption)))⟩
end Go.Proofs.YtpmjlaiafgbjgaaGreatDoor
end

section
namespace Go.Proofs.YtpmjlaiafgbjgaaGreatDoor
open Go.RowKit
set_option maxRecDepth 100000 in
set_option maxHeartbeats 1000000 in
theorem Runpack_sum (ad : Addr) (c m K : Nat) (l : List Nat) (hm : 12 ≤ m ∧ m ≤ 60) (hc : m + 4 ≤ c) (RH : Hid (∀ w, SlAt w (some ad) (u8v l) → Calls Tryz.prog 73 #[.slice (some ad) (m + 4) c] w fun e w' => e = .returned (.bool true) ∧ w = w')) (RS : Hid (∀ w, Calls Tryz.prog 74 #[.int .u8 (K : Int)] w fun e w' => e = .returned (.int .i64 ((m + 4 : Nat) : Int)) ∧ w = w')) (h3 : ∀ w, SlAt w (some ad) (u8v l) → w.cell? ⟨ad.block, ad.off + 3, none⟩ = some (.int .u8 (K : Int))) (G C : Nat) (hC : C < 4294967296) (GT : Hid (∀ w, SlAt w (some ad) (u8v l) → Calls Tryz.prog 63 #[.slice (some (ad.add m)) 4 (c - m)] w fun e w' => e = .returned (.int .u64 (G : Int)) ∧ w = w')) (SM : Hid (∀ w, SlAt w (some ad) (u8v l) → Calls Tryz.prog 56 #[.slice (some ad) m c] w fun e w' => e = .returned (.int .u32 (C : Int)) ∧ w = w')) (hs : ((C : Int) != (G : Int)) = true) (w : World) (hr : SlAt w (some ad) (u8v l)) : Calls Tryz.prog 48 #[.slice (some ad) (m + 4) c] w fun e w' => e = .returned (.tuple #[.agg #[.int .i64 0, .int .u32 0, .int .u32 0, .slice none 0 0], .int .i64 212]) ∧ Within w w' := by
  have HR := Lib.hid hr; clear hr
  have HH3 := Lib.hid h3; clear h3
  obtain ⟨m1, m2⟩ := hm
  have hn0 : (((m + 4 : Nat) : Int) != ((m + 4 : Nat) : Int)) = false := by rw [bne_eq_false_iff_eq]
  have hn1 : ((m : Int) + 4 != (m : Int) + 4) = false := by rw [bne_eq_false_iff_eq]
  have d4 : decide ((m : Int) + 4 < 4) = false := decide_eq_false (by omega)
  have l3 : (3 : Int) < (m : Int) + 4 := by omega
  have w4 : IntKind.i64.wrap (m : Int) = (m : Int) := by rw [IntKind.wrap_i64]; omega
  have hcm : ¬ c = m := by omega
  have hle : (m : Int) ≤ (m : Int) + 4 := by omega
  have hmc : m ≤ c := by omega
  have gC : IntKind.u64.wrap (C : Int) = (C : Int) := by rw [IntKind.wrap_u64]; omega
  clear hC
  go_enter Tryz.func48, Tryz.ntmps48
  go_wp2_with fail
  have hw1 := HR.out.of ((Within.refl w).alloc (.cells #[.int .i64 0, .int .u32 0, .int .u32 0, .slice none 0 0] 64))
  have k3 := HH3.out _ hw1
  refine (RH.out _ hw1).mono ?_; rintro e1 w1 ⟨rfl, rfl⟩
  go_wp2_with fail
  refine (RS.out _).mono ?_; rintro e2 w2 ⟨rfl, rfl⟩
  clear k3
  go_wp2
  refine wp_region_within (by kernel_rfl) (by kernel_rfl) ?_
  repeat
    apply wpq_step rfl
    · intro wq hCq
      have hsl := HR.out.of ((((Within.refl w).alloc _).trans hCq))
      go_simp
      first | rfl | exact hCq.same (GT.out _ hsl) | exact hCq.same (SM.out _ hsl) | (trace_state; fail)
    try simp only [Act.put, List.setIfInBounds_toArray, List.set_cons_zero, List.set_cons_succ]
  refine wpQuiet_nil ?_
  intro w3 hb3
  have q0 : w3.cell? ⟨w.heap.size, 0, none⟩ = some (.int .i64 0) := (hb3.cells _ _ (by simp)).trans (by simp)
  have q1 : w3.cell? ⟨w.heap.size, 1, none⟩ = some (.int .u32 0) := (hb3.cells _ _ (by simp)).trans (by simp)
  have q2 : w3.cell? ⟨w.heap.size, 2, none⟩ = some (.int .u32 0) := (hb3.cells _ _ (by simp)).trans (by simp)
  have q3 : w3.cell? ⟨w.heap.size, 3, none⟩ = some (.slice none 0 0) := (hb3.cells _ _ (by simp)).trans (by simp)
  have qf : ∀ o, w3.frozen? ⟨w.heap.size, o, none⟩ = false := fun o => (hb3.frozens _ _ (by simp)).trans (by simp)
  have qz : w.heap.size < w3.heap.size := World.block_lt_of_cell? _ _ q0
  go_wp2
  refine bodyPost_ret (v := .tuple #[.agg #[.int .i64 0, .int .u32 0, .int .u32 0, .slice none 0 0], .int .i64 212]) (by simp [results, Tryz.results48, go_sem, q0, q1, q2, q3]) rfl ⟨rfl, (by repeat (first | with_reducible exact Within.refl _ | with_reducible assumption | with_reducible refine Within.alloc ?_ _ | with_reducible refine Within.drew ?_ | with_reducible refine Within.drewN ?_ _ | with_reducible refine Within.setCell ?_ (by first | (simp; done) | (simp; omega)) _ | with_reducible refine Within.trans ?_ (by assumption)))⟩
theorem Rtake_at (ad : Addr) (_c k n : Nat) (l : List Nat) (hb : Bytes l) (hn : n ≤ 8) (hk : k + n ≤ l.length) (C : Nat) (w : World) (hr : SlAt w (some ad) (u8v l)) : Calls Tryz.prog 63 #[.slice (some (ad.add k)) n C] w fun e w' => e = .returned (.int .u64 (leVal ((l.drop k).take n) : Int)) ∧ w = w' := by
  have h1 := hr.drop k
  have h2 : SlAt w (some (ad.add k)) (u8v ((l.drop k).take n)) := by
    have := h1.take n
    unfold u8v at this ⊢
    rwa [← List.map_drop, ← List.map_take] at this
  have h3 : ((l.drop k).take n).length = n := by rw [List.length_take, List.length_drop]; omega
  have := Rtake_any (some (ad.add k)) C _ ((hb.drop k).take n) (by omega) w h2
  rwa [h3] at this
def RunRel (W3 : World) (d : List Nat) (wide : Bool) (n S q t : Nat) (vv : Value) (wr : World) : Prop :=
  ∃ (k a : Nat) (vs : List Nat) (sl : Value), k ≤ n ∧ vv = .int .i64 (a : Int) ∧ a = 12 + stp wide * k ∧
    vs.map canonD = (rdVals pf wide k d).map canonD ∧ Words64 vs ∧ OwnF wr (W3.heap.size + 1) sl vs ∧ wr.cell? ⟨W3.heap.size, 0, none⟩ = some (.int .i64 (S : Int)) ∧ wr.cell? ⟨W3.heap.size, 1, none⟩ = some (.int .u32 (q : Int)) ∧
    wr.cell? ⟨W3.heap.size, 2, none⟩ = some (.int .u32 (t : Int)) ∧ wr.cell? ⟨W3.heap.size, 3, none⟩ = some sl ∧ (∀ o, wr.frozen? ⟨W3.heap.size, o, none⟩ = false) ∧ Within W3 wr
theorem RunRel.step {W3 w' : World} {d : List Nat} {wide : Bool} {n S q t k a : Nat} {x : Nat} {vs : List Nat} {sl' : Value} (hk : k < n) (ha : a = 12 + stp wide * (k + 1))
    (hvs : vs.map canonD = (rdVals pf wide k d).map canonD) (hx : canonD x = canonD (if wide then leVal ((d.drop (stp wide * k)).take 8) else pf.wb (leVal ((d.drop (stp wide * k)).take 4)))) (hx2 : x < 18446744073709551616) (hw : Words64 vs)
    (hown : OwnF w' (W3.heap.size + 1) sl' (vs ++ [x])) (h0 : w'.cell? ⟨W3.heap.size, 0, none⟩ = some (.int .i64 (S : Int))) (h1 : w'.cell? ⟨W3.heap.size, 1, none⟩ = some (.int .u32 (q : Int))) (h2 : w'.cell? ⟨W3.heap.size, 2, none⟩ = some (.int .u32 (t : Int)))
    (h3 : (w'.cell? ⟨W3.heap.size, 3, none⟩).isSome = true) (hf : ∀ o, w'.frozen? ⟨W3.heap.size, o, none⟩ = false) (hb : Within W3 w') :
    RunRel W3 d wide n S q t (.int .i64 (a : Int)) (w'.setCell ⟨W3.heap.size, 3, none⟩ sl') := by
  obtain ⟨u, hu⟩ := Option.isSome_iff_exists.1 h3
  refine ⟨k + 1, a, vs ++ [x], sl', hk, rfl, ha, ?_, ?_, hown.set (by show W3.heap.size < _; omega) _, ?_, ?_, ?_, World.cell?_setCell_same _ _ _ hu, fun o => ?_, hb.setCell (Nat.le_refl _) _⟩
  · rw [rdVals_snoc, List.map_append, List.map_append, hvs, List.map_singleton, List.map_singleton, hx]
  · intro y hy
    rcases List.mem_append.1 hy with h | h
    · exact hw y h
    · rw [List.mem_singleton] at h; rw [h]; exact hx2
  · rw [World.cell?_setCell_other _ _ _ _ (by simp)]; exact h0
  · rw [World.cell?_setCell_other _ _ _ _ (by simp)]; exact h1
  · rw [World.cell?_setCell_other _ _ _ _ (by simp)]; exact h2
  · rw [World.frozen?_setCell]; exact hf o
def upTo (m : Nat) : Value → Nat
  | .int _ x => m - x.toNat
  | _ => 0
end Go.Proofs.YtpmjlaiafgbjgaaGreatDoor
end

section
namespace Go.Proofs.YtpmjlaiafgbjgaaGreatDoor
open Go.RowKit
set_option maxRecDepth 100000 in
set_option maxHeartbeats 1000000 in
theorem Runpack_wide (ad : Addr) (c m K : Nat) (l : List Nat) (hm : 12 ≤ m ∧ m ≤ 60) (hc : m + 4 ≤ c) (RH : Hid (∀ w, SlAt w (some ad) (u8v l) → Calls Tryz.prog 73 #[.slice (some ad) (m + 4) c] w fun e w' => e = .returned (.bool true) ∧ w = w')) (RS : Hid (∀ w, Calls Tryz.prog 74 #[.int .u8 (K : Int)] w fun e w' => e = .returned (.int .i64 ((m + 4 : Nat) : Int)) ∧ w = w')) (h3 : ∀ w, SlAt w (some ad) (u8v l) → w.cell? ⟨ad.block, ad.off + 3, none⟩ = some (.int .u8 (K : Int))) (G C : Nat) (hC : C < 4294967296) (GT : Hid (∀ w, SlAt w (some ad) (u8v l) → Calls Tryz.prog 63 #[.slice (some (ad.add m)) 4 (c - m)] w fun e w' => e = .returned (.int .u64 (G : Int)) ∧ w = w')) (SM : Hid (∀ w, SlAt w (some ad) (u8v l) → Calls Tryz.prog 56 #[.slice (some ad) m c] w fun e w' => e = .returned (.int .u32 (C : Int)) ∧ w = w')) (S q t : Nat) (hS : S < 256) (hq : q < 4294967296) (ht : t < 4294967296) (GQ : Hid (∀ w, SlAt w (some ad) (u8v l) → Calls Tryz.prog 63 #[.slice (some ⟨ad.block, ad.off + 4, none⟩) 4 (c - 4)] w fun e w' => e = .returned (.int .u64 (q : Int)) ∧ w = w')) (GT4 : Hid (∀ w, SlAt w (some ad) (u8v l) → Calls Tryz.prog 63 #[.slice (some ⟨ad.block, ad.off + 8, none⟩) 4 (c - 8)] w fun e w' => e = .returned (.int .u64 (t : Int)) ∧ w = w')) (h2 : ∀ w, SlAt w (some ad) (u8v l) → w.cell? ⟨ad.block, ad.off + 2, none⟩ = some (.int .u8 (S : Int))) (n : Nat) (hn : n ≤ 6) (hmn : m = 12 + 8 * n) (hK : decide (128 ≤ (K : Int)) = true) (d : List Nat) (hd : d = (l.drop 12).take (8 * n)) (hbd : Bytes d) (hdl : d.length = 8 * n) (hbl : Bytes l) (hll : l.length = m + 4) (fb sb : Bool) (hfb : (rdVals pf true n d).all finD = fb) (hsb : (rdVals pf true n d).all isSD = sb) (er : Int) (her : er = if fb = false ∨ true = sb then 211 else 0) (rd : Rd) (hrd : rd = if er = 0 then ⟨S, q, t, rdVals pf true n d⟩ else noRd) (hs : ((C : Int) != (G : Int)) = false) (w : World) (hr : SlAt w (some ad) (u8v l)) : Calls Tryz.prog 48 #[.slice (some ad) (m + 4) c] w (RetR w rd er) := by
  have HFB := Lib.hid hfb; have HSB := Lib.hid hsb; have HER := Lib.hid her; have HBD := Lib.hid hbd; have HDL := Lib.hid hdl; have HD := Lib.hid hd; have HRD := Lib.hid hrd; have HBL := Lib.hid hbl; have HLL := Lib.hid hll; clear hrd hfb hsb her hbd hdl hd hbl hll
  have HR := Lib.hid hr; clear hr
  have HH3 := Lib.hid h3; clear h3
  obtain ⟨m1, m2⟩ := hm
  have hn0 : (((m + 4 : Nat) : Int) != ((m + 4 : Nat) : Int)) = false := by rw [bne_eq_false_iff_eq]
  have hn1 : ((m : Int) + 4 != (m : Int) + 4) = false := by rw [bne_eq_false_iff_eq]
  have d4 : decide ((m : Int) + 4 < 4) = false := decide_eq_false (by omega)
  have l3 : (3 : Int) < (m : Int) + 4 := by omega
  have w4 : IntKind.i64.wrap (m : Int) = (m : Int) := by rw [IntKind.wrap_i64]; omega
  have hcm : ¬ c = m := by omega
  have hle : (m : Int) ≤ (m : Int) + 4 := by omega
  have hmc : m ≤ c := by omega
  have gC : IntKind.u64.wrap (C : Int) = (C : Int) := by rw [IntKind.wrap_u64]; omega
  clear hC
  have w32q : IntKind.u32.wrap (q : Int) = (q : Int) := by rw [IntKind.wrap_u32]; omega
  have w32t : IntKind.u32.wrap (t : Int) = (t : Int) := by rw [IntKind.wrap_u32]; omega
  have wS : IntKind.i64.wrap (S : Int) = (S : Int) := by rw [IntKind.wrap_i64]; omega
  have hc4 : ¬ c = 4 := by omega
  have hc8 : ¬ c = 8 := by omega
  have hc12 : ¬ c = 12 := by omega
  have l8 : (8 : Int) ≤ (c : Int) := by omega
  have l12 : (12 : Int) ≤ (c : Int) := by omega
  have l2 : (2 : Int) < (m : Int) + 4 := by omega
  have l12m : (12 : Int) ≤ (m : Int) := by omega
  have HH := Lib.hid h2; have HMN := Lib.hid hmn; clear h2 hmn
  have HS := Lib.hid (And.intro hS (And.intro hq ht)); clear hS hq ht
  go_enter Tryz.func48, Tryz.ntmps48
  go_wp2_with fail
  have hw1 := HR.out.of ((Within.refl w).alloc (.cells #[.int .i64 0, .int .u32 0, .int .u32 0, .slice none 0 0] 64))
  have k3 := HH3.out _ hw1
  refine (RH.out _ hw1).mono ?_; rintro e1 w1 ⟨rfl, rfl⟩
  go_wp2_with fail
  refine (RS.out _).mono ?_; rintro e2 w2 ⟨rfl, rfl⟩
  clear k3
  go_wp2
  refine wp_region_within (by kernel_rfl) (by kernel_rfl) ?_
  repeat
    apply wpq_step rfl
    · intro wq hCq
      have hsl := HR.out.of ((((Within.refl w).alloc _).trans hCq))
      go_simp
      first | rfl | exact hCq.same (GT.out _ hsl) | exact hCq.same (SM.out _ hsl) | (trace_state; fail)
    try simp only [Act.put, List.setIfInBounds_toArray, List.set_cons_zero, List.set_cons_succ]
  refine wpQuiet_nil ?_
  intro w3 hb3
  have q0 : w3.cell? ⟨w.heap.size, 0, none⟩ = some (.int .i64 0) := (hb3.cells _ _ (by simp)).trans (by simp)
  have q1 : w3.cell? ⟨w.heap.size, 1, none⟩ = some (.int .u32 0) := (hb3.cells _ _ (by simp)).trans (by simp)
  have q2 : w3.cell? ⟨w.heap.size, 2, none⟩ = some (.int .u32 0) := (hb3.cells _ _ (by simp)).trans (by simp)
  have q3 : w3.cell? ⟨w.heap.size, 3, none⟩ = some (.slice none 0 0) := (hb3.cells _ _ (by simp)).trans (by simp)
  have qf : ∀ o, w3.frozen? ⟨w.heap.size, o, none⟩ = false := fun o => (hb3.frozens _ _ (by simp)).trans (by simp)
  have qz : w.heap.size < w3.heap.size := World.block_lt_of_cell? _ _ q0
  go_upto_region 6 with fail
  go_cut [5] (fun s5 wx => s5 = .pointer (some ⟨w3.heap.size, 0, none⟩) ∧ (wx.cell? ⟨w3.heap.size, 0, none⟩ = some (.int .i64 (S : Int)) ∧ wx.cell? ⟨w3.heap.size, 1, none⟩ = some (.int .u32 (q : Int)) ∧ wx.cell? ⟨w3.heap.size, 2, none⟩ = some (.int .u32 (t : Int)) ∧ wx.cell? ⟨w3.heap.size, 3, none⟩ = some (.slice none 0 0) ∧ (∀ o, wx.frozen? ⟨w3.heap.size, o, none⟩ = false) ∧ Within w3 wx))
  case first =>
    have h2 := HH.out
    refine wp_region_schG (fun W => SlAt W (some ad) (u8v l) ∧ W.heap.size = w3.heap.size ∧ Within w3 W) 14 (.firm 0 (.firm 1 (.firm 2 (.firm 3 (.firm 4 (.firm 5 (.firm 8 (.firm 9 (.two 6 (.firm 7 (.two 10 (.firm 11 (.firm 12 (.one 13 (.one 14 .nil)))) 13 (.one 10 (.firm 11 (.firm 12 (.one 14 .nil)))))) 13 (.one 6 (.firm 7 (.one 10 (.firm 11 (.firm 12 (.one 14 .nil))))))))))))))) (by kernel_rfl) (by kernel_rfl) ⟨HR.out.of ((Within.refl w).alloc _ |>.trans hb3), rfl, Within.refl _⟩ ?_
    rintro w0 ⟨hs0, hz1, hw0⟩
    try simp only [Act.put, List.setIfInBounds_toArray, List.set_cons_zero, List.set_cons_succ]
    iterate 8
      apply sch_firm rfl rfl (by repeat (first | with_reducible exact Within.refl _ | with_reducible assumption | with_reducible refine Within.alloc ?_ _ | with_reducible refine Within.drew ?_ | with_reducible refine Within.drewN ?_ _ | with_reducible refine Within.setCell ?_ (by first | (simp; done) | (simp; omega)) _ | with_reducible refine Within.trans ?_ (by assumption)))
      · intro wq hq
        have hcq := hq.cells
        have hcell := h2 _ (hs0.of hq)
        clear hq
        go_simp
        rfl
      try simp only [Act.put, List.setIfInBounds_toArray, List.set_cons_zero, List.set_cons_succ]
    refine sch_two rfl rfl rfl rfl (fun K hK => ?_) (fun K hK => ?_)
    · go_simp
      refine (GQ.out _ (by first | exact hs0 | exact hs0.of ((Within.refl _).drew) | exact hs0.of (((Within.refl _).drew).alloc _))).mono ?_; rintro e4 w4 ⟨rfl, rfl⟩
      refine hK _ _ (by repeat (first | with_reducible exact Within.refl _ | with_reducible assumption | with_reducible refine Within.alloc ?_ _ | with_reducible refine Within.drew ?_ | with_reducible refine Within.drewN ?_ _ | with_reducible refine Within.setCell ?_ (by first | (simp; done) | (simp; omega)) _ | with_reducible refine Within.trans ?_ (by assumption))) ?_
      clear hK K
      try simp only [Act.put, List.setIfInBounds_toArray, List.set_cons_zero, List.set_cons_succ]
      apply sch_firm rfl rfl (by repeat (first | with_reducible exact Within.refl _ | with_reducible assumption | with_reducible refine Within.alloc ?_ _ | with_reducible refine Within.drew ?_ | with_reducible refine Within.drewN ?_ _ | with_reducible refine Within.setCell ?_ (by first | (simp; done) | (simp; omega)) _ | with_reducible refine Within.trans ?_ (by assumption)))
      · intro wq hq
        have hcq := hq.cells
        have hcell := h2 _ (hs0.of hq)
        clear hq
        go_simp
        rfl
      try simp only [Act.put, List.setIfInBounds_toArray, List.set_cons_zero, List.set_cons_succ]
      refine sch_two rfl rfl rfl rfl (fun K hK => ?_) (fun K hK => ?_)
      · go_simp
        refine (GT4.out _ (by first | exact hs0 | exact hs0.of ((Within.refl _).drew) | exact hs0.of (((Within.refl _).drew).alloc _))).mono ?_; rintro e5 w5 ⟨rfl, rfl⟩
        refine hK _ _ (by repeat (first | with_reducible exact Within.refl _ | with_reducible assumption | with_reducible refine Within.alloc ?_ _ | with_reducible refine Within.drew ?_ | with_reducible refine Within.drewN ?_ _ | with_reducible refine Within.setCell ?_ (by first | (simp; done) | (simp; omega)) _ | with_reducible refine Within.trans ?_ (by assumption))) ?_
        clear hK K
        try simp only [Act.put, List.setIfInBounds_toArray, List.set_cons_zero, List.set_cons_succ]
        iterate 2
          apply sch_firm rfl rfl (by repeat (first | with_reducible exact Within.refl _ | with_reducible assumption | with_reducible refine Within.alloc ?_ _ | with_reducible refine Within.drew ?_ | with_reducible refine Within.drewN ?_ _ | with_reducible refine Within.setCell ?_ (by first | (simp; done) | (simp; omega)) _ | with_reducible refine Within.trans ?_ (by assumption)))
          · intro wq hq
            have hcq := hq.cells
            have hcell := h2 _ (hs0.of hq)
            clear hq
            go_simp
            rfl
          try simp only [Act.put, List.setIfInBounds_toArray, List.set_cons_zero, List.set_cons_succ]
        refine sch_one rfl rfl (fun K hK => ?_)
        go_simp
        refine hK _ _ (fun _ => (by repeat (first | with_reducible exact Within.refl _ | with_reducible assumption | with_reducible refine Within.alloc ?_ _ | with_reducible refine Within.drew ?_ | with_reducible refine Within.drewN ?_ _ | with_reducible refine Within.setCell ?_ (by first | (simp; done) | (simp; omega)) _ | with_reducible refine Within.trans ?_ (by assumption)))) ?_
        clear hK K
        try simp only [Act.put, List.setIfInBounds_toArray, List.set_cons_zero, List.set_cons_succ]
        refine sch_one rfl rfl (fun K hK => ?_)
        go_simp
        refine hK _ _ (fun h => absurd h (by decide)) ?_
        clear hK K
        try simp only [Act.put, List.setIfInBounds_toArray, List.set_cons_zero, List.set_cons_succ]
        refine sch_nil ?_
        go_wp2_with fail
        go_meet
        exact ⟨rfl, by go_simp, by go_simp, by go_simp, by go_simp, fun o => by go_simp, (by repeat (first | with_reducible exact Within.refl _ | with_reducible assumption | with_reducible refine Within.alloc ?_ _ | with_reducible refine Within.drew ?_ | with_reducible refine Within.drewN ?_ _ | with_reducible refine Within.setCell ?_ (by first | (simp; done) | (simp; omega)) _ | with_reducible refine Within.trans ?_ (by assumption)))⟩
      · go_simp
        refine hK _ _ (by repeat (first | with_reducible exact Within.refl _ | with_reducible assumption | with_reducible refine Within.alloc ?_ _ | with_reducible refine Within.drew ?_ | with_reducible refine Within.drewN ?_ _ | with_reducible refine Within.setCell ?_ (by first | (simp; done) | (simp; omega)) _ | with_reducible refine Within.trans ?_ (by assumption))) ?_
        clear hK K
        try simp only [Act.put, List.setIfInBounds_toArray, List.set_cons_zero, List.set_cons_succ]
        refine sch_one rfl rfl (fun K hK => ?_)
        go_simp
        refine (GT4.out _ (by first | exact hs0 | exact hs0.of ((Within.refl _).drew) | exact hs0.of (((Within.refl _).drew).alloc _))).mono ?_; rintro e5 w5 ⟨rfl, rfl⟩
        refine hK _ _ (fun _ => (by repeat (first | with_reducible exact Within.refl _ | with_reducible assumption | with_reducible refine Within.alloc ?_ _ | with_reducible refine Within.drew ?_ | with_reducible refine Within.drewN ?_ _ | with_reducible refine Within.setCell ?_ (by first | (simp; done) | (simp; omega)) _ | with_reducible refine Within.trans ?_ (by assumption)))) ?_
        clear hK K
        try simp only [Act.put, List.setIfInBounds_toArray, List.set_cons_zero, List.set_cons_succ]
        iterate 2
          apply sch_firm rfl rfl (by repeat (first | with_reducible exact Within.refl _ | with_reducible assumption | with_reducible refine Within.alloc ?_ _ | with_reducible refine Within.drew ?_ | with_reducible refine Within.drewN ?_ _ | with_reducible refine Within.setCell ?_ (by first | (simp; done) | (simp; omega)) _ | with_reducible refine Within.trans ?_ (by assumption)))
          · intro wq hq
            have hcq := hq.cells
            have hcell := h2 _ (hs0.of hq)
            clear hq
            go_simp
            rfl
          try simp only [Act.put, List.setIfInBounds_toArray, List.set_cons_zero, List.set_cons_succ]
        refine sch_one rfl rfl (fun K hK => ?_)
        go_simp
        refine hK _ _ (fun h => absurd h (by decide)) ?_
        clear hK K
        try simp only [Act.put, List.setIfInBounds_toArray, List.set_cons_zero, List.set_cons_succ]
        refine sch_nil ?_
        go_wp2_with fail
        go_meet
        exact ⟨rfl, by go_simp, by go_simp, by go_simp, by go_simp, fun o => by go_simp, (by repeat (first | with_reducible exact Within.refl _ | with_reducible assumption | with_reducible refine Within.alloc ?_ _ | with_reducible refine Within.drew ?_ | with_reducible refine Within.drewN ?_ _ | with_reducible refine Within.setCell ?_ (by first | (simp; done) | (simp; omega)) _ | with_reducible refine Within.trans ?_ (by assumption)))⟩
    · go_simp
      refine hK _ _ (by repeat (first | with_reducible exact Within.refl _ | with_reducible assumption | with_reducible refine Within.alloc ?_ _ | with_reducible refine Within.drew ?_ | with_reducible refine Within.drewN ?_ _ | with_reducible refine Within.setCell ?_ (by first | (simp; done) | (simp; omega)) _ | with_reducible refine Within.trans ?_ (by assumption))) ?_
      clear hK K
      try simp only [Act.put, List.setIfInBounds_toArray, List.set_cons_zero, List.set_cons_succ]
      refine sch_one rfl rfl (fun K hK => ?_)
      go_simp
      refine (GQ.out _ (by first | exact hs0 | exact hs0.of ((Within.refl _).drew) | exact hs0.of (((Within.refl _).drew).alloc _))).mono ?_; rintro e4 w4 ⟨rfl, rfl⟩
      refine hK _ _ (fun _ => (by repeat (first | with_reducible exact Within.refl _ | with_reducible assumption | with_reducible refine Within.alloc ?_ _ | with_reducible refine Within.drew ?_ | with_reducible refine Within.drewN ?_ _ | with_reducible refine Within.setCell ?_ (by first | (simp; done) | (simp; omega)) _ | with_reducible refine Within.trans ?_ (by assumption)))) ?_
      clear hK K
      try simp only [Act.put, List.setIfInBounds_toArray, List.set_cons_zero, List.set_cons_succ]
      apply sch_firm rfl rfl (by repeat (first | with_reducible exact Within.refl _ | with_reducible assumption | with_reducible refine Within.alloc ?_ _ | with_reducible refine Within.drew ?_ | with_reducible refine Within.drewN ?_ _ | with_reducible refine Within.setCell ?_ (by first | (simp; done) | (simp; omega)) _ | with_reducible refine Within.trans ?_ (by assumption)))
      · intro wq hq
        have hcq := hq.cells
        have hcell := h2 _ (hs0.of hq)
        clear hq
        go_simp
        rfl
      try simp only [Act.put, List.setIfInBounds_toArray, List.set_cons_zero, List.set_cons_succ]
      refine sch_one rfl rfl (fun K hK => ?_)
      go_simp
      refine (GT4.out _ (by first | exact hs0 | exact hs0.of ((Within.refl _).drew) | exact hs0.of (((Within.refl _).drew).alloc _))).mono ?_; rintro e5 w5 ⟨rfl, rfl⟩
      refine hK _ _ (fun _ => (by repeat (first | with_reducible exact Within.refl _ | with_reducible assumption | with_reducible refine Within.alloc ?_ _ | with_reducible refine Within.drew ?_ | with_reducible refine Within.drewN ?_ _ | with_reducible refine Within.setCell ?_ (by first | (simp; done) | (simp; omega)) _ | with_reducible refine Within.trans ?_ (by assumption)))) ?_
      clear hK K
      try simp only [Act.put, List.setIfInBounds_toArray, List.set_cons_zero, List.set_cons_succ]
      iterate 2
        apply sch_firm rfl rfl (by repeat (first | with_reducible exact Within.refl _ | with_reducible assumption | with_reducible refine Within.alloc ?_ _ | with_reducible refine Within.drew ?_ | with_reducible refine Within.drewN ?_ _ | with_reducible refine Within.setCell ?_ (by first | (simp; done) | (simp; omega)) _ | with_reducible refine Within.trans ?_ (by assumption)))
        · intro wq hq
          have hcq := hq.cells
          have hcell := h2 _ (hs0.of hq)
          clear hq
          go_simp
          rfl
        try simp only [Act.put, List.setIfInBounds_toArray, List.set_cons_zero, List.set_cons_succ]
      refine sch_one rfl rfl (fun K hK => ?_)
      go_simp
      refine hK _ _ (fun h => absurd h (by decide)) ?_
      clear hK K
      try simp only [Act.put, List.setIfInBounds_toArray, List.set_cons_zero, List.set_cons_succ]
      refine sch_nil ?_
      go_wp2_with fail
      go_meet
      exact ⟨rfl, by go_simp, by go_simp, by go_simp, by go_simp, fun o => by go_simp, (by repeat (first | with_reducible exact Within.refl _ | with_reducible assumption | with_reducible refine Within.alloc ?_ _ | with_reducible refine Within.drew ?_ | with_reducible refine Within.drewN ?_ _ | with_reducible refine Within.setCell ?_ (by first | (simp; done) | (simp; omega)) _ | with_reducible refine Within.trans ?_ (by assumption)))⟩
  case rest =>
    obtain ⟨rfl, r0, r1, r2, r3, rf, hw6⟩ := hcut
    have hsl3 : SlAt w3 (some ad) (u8v l) := HR.out.of ((Within.refl w).alloc _ |>.trans hb3)
    have k3 := HH3.out _ (hsl3.of hw6)
    go_wp2
    go_loopw [7] (fun vv wr => RunRel w3 d true n S q t vv wr) (fun vv _ => upTo m vv)
    case atStart => exact ⟨0, 12, [], .slice none 0 0, Nat.zero_le _, rfl, rfl, rfl, (fun x hx => by cases hx), OwnF.nil_ _ _, r0, r1, r2, r3, rf, hw6⟩
    case round =>
      obtain ⟨k, a, vs, sl, hk, rfl, ha, hvs, hwv, hown, p0, p1, p2, p3, pf', hin⟩ := hrel
      have HVS := Lib.hid hvs; have HWV := Lib.hid hwv; clear hvs hwv
      have hvl : vs.length = k := by have := congrArg List.length HVS.out; rwa [List.length_map, List.length_map, rdVals_len] at this
      have hRz : w3.heap.size < wr.heap.size := World.block_lt_of_cell? wr _ p0
      obtain ⟨As, cs, rfl, _, hsat, _⟩ := hown.form
      have HOW := Lib.hid hown; have HVL := Lib.hid hvl; clear hown hvl
      by_cases hlt : k < n
      · have ha12 : a = 12 + 8 * k := by rw [ha]; rfl
        have hmn' := HMN.out
        have dm : decide ((a : Int) < (m : Int)) = true := decide_eq_true (by omega)
        have dn : a < m := by simpa using of_decide_eq_true dm
        have a8 : IntKind.i64.wrap ((a : Int) + 8) = (a : Int) + 8 := by rw [IntKind.wrap_i64]; omega
        have ac : a + 8 ≤ c := by omega
        have aci : (a : Int) + 8 ≤ (c : Int) := by omega
        have aa : (a : Int) ≤ (a : Int) + 8 := by omega
        have ca : ¬ c = a := by omega
        have al : a ≤ c := by omega
        have am : (a : Int) + 8 ≤ (m : Int) + 4 := by omega
        have ai0 : (0 : Int) ≤ (a : Int) := by omega
        have ai8 : (0 : Int) ≤ (a : Int) + 8 := by omega
        obtain ⟨X, hX⟩ : ∃ X, X = leVal ((l.drop a).take 8) := ⟨_, rfl⟩
        have hsl3' : SlAt wr (some ad) (u8v l) := hsl3.of hin
        have GV : Calls Tryz.prog 63 #[.slice (some (ad.add a)) 8 (c - a)] wr fun e w' => e = .returned (.int .u64 (X : Int)) ∧ wr = w' := by
          rw [hX]; exact Rtake_at ad c a 8 l HBL.out (by decide) (by rw [HLL.out]; omega) _ wr hsl3'
        have HGV := Lib.hid GV; clear GV
        have hX2 : X < 2 ^ 64 := by rw [hX]; have := leVal_lt ((HBL.out.drop a).take 8); rwa [show ((l.drop a).take 8).length = 8 by rw [List.length_take, List.length_drop, HLL.out]; omega] at this
        have hXd : X = leVal ((d.drop (stp true * k)).take 8) := by
          rw [hX, HD.out, List.drop_take, List.drop_drop, List.take_take, ha]
          rw [Nat.min_eq_left (by show 8 ≤ 8 * n - 8 * k; omega)]
        obtain ⟨v1, w1, hrun, hown1, hbl2⟩ := run_app_float wr (w3.heap.size + 1) _ vs X HOW.out (by have := HVL.out; omega) hRz
        have hbl1 : Below (w3.heap.size + 1) wr w1 := hbl2
        obtain ⟨A1, c1, hv1, _⟩ := hown1.form
        obtain ⟨N1, hN1⟩ : ∃ N1, N1 = (vs ++ [X]).length := ⟨_, rfl⟩
        rw [← hN1] at hv1
        subst hv1
        have RUN := Lib.hid hrun; clear hrun
        have g0 : w1.cell? ⟨w3.heap.size, 0, none⟩ = some (.int .i64 (S : Int)) := (hbl1.cell (p := ⟨w3.heap.size, 0, none⟩) (Nat.lt_succ_self _)).trans p0
        have g1 : w1.cell? ⟨w3.heap.size, 1, none⟩ = some (.int .u32 (q : Int)) := (hbl1.cell (p := ⟨w3.heap.size, 1, none⟩) (Nat.lt_succ_self _)).trans p1
        have g2 : w1.cell? ⟨w3.heap.size, 2, none⟩ = some (.int .u32 (t : Int)) := (hbl1.cell (p := ⟨w3.heap.size, 2, none⟩) (Nat.lt_succ_self _)).trans p2
        have g3 : w1.cell? ⟨w3.heap.size, 3, none⟩ = some (.slice As vs.length cs) := (hbl1.cell (p := ⟨w3.heap.size, 3, none⟩) (Nat.lt_succ_self _)).trans p3
        have gf : ∀ o, w1.frozen? ⟨w3.heap.size, o, none⟩ = false := fun o => (hbl1.frozen (p := ⟨w3.heap.size, o, none⟩) (Nat.lt_succ_self _)).trans (pf' o)
        have HA := Lib.hid ha12; have HX2 := Lib.hid hX2; have HXD := Lib.hid hXd; have HN1 := Lib.hid hN1; have HN1 := Lib.hid hN1; clear ha ha12 hX2 hXd hX hmn' hN1
        go_wp2_with fail
        refine HGV.out.mono ?_; rintro e5 w5 ⟨rfl, rfl⟩
        go_wp2_with (at_builtin; refine wpList_append_run rfl (.tmp 83) (.tmp 85) 62 rfl _ _ rfl rfl RUN.out ?_)
        go_roundw
        case rel =>
          have hN1 := HN1.out; rw [List.length_append, List.length_singleton] at hN1; subst hN1
          have hXc : canonD X = canonD (if true = true then leVal ((d.drop (stp true * k)).take 8) else pf.wb (leVal ((d.drop (stp true * k)).take 4))) := by rw [if_pos rfl, ← HXD.out]
          have hst := RunRel.step (a := a + 8) hlt (by rw [HA.out]; show 12 + 8 * k + 8 = 12 + 8 * (k + 1); omega) HVS.out hXc (by have := HX2.out; omega) HWV.out hown1 g0 g1 g2 (by rw [g3]; rfl) gf (show Within w3 w1 from Below.trans hin (hbl1.mono (Nat.le_succ _)))
          simpa using hst
        case measure =>
          have := of_decide_eq_true dm; simp only [upTo]; omega
      · have hkn : k = n := by omega
        subst hkn
        have HA := Lib.hid ha; clear ha
        have dm : decide ((a : Int) < (m : Int)) = false := decide_eq_false (by have := HA.out; have := HMN.out; simp only [stp, if_true] at *; omega)
        have dn : ¬ a < m := by simpa using of_decide_eq_false dm
        have dk : m ≤ a := by omega
        have hfe : vs.all finD = fb := (map_all (fun _ _ h => finD_same h) HVS.out).trans HFB.out
        have hse : vs.all isSD = sb := (map_all (fun _ _ h => isSD_same h) HVS.out).trans HSB.out
        have hWw : Within w wr := (((Within.refl w).alloc _).trans hb3).trans hin
        have FN := RallFinite_any As cs vs HWV.out (by have := HVL.out; omega) wr hsat
        rw [hfe] at FN
        have SGL : Hid (∀ wx, Within wr wx → Calls Tryz.prog 52 #[.slice As vs.length cs] wx fun e w' => e = .returned (.bool sb) ∧ Within wx w') := Lib.hid (fun wx hx => by
          have := Rsingles_any As cs vs HWV.out (by have := HVL.out; omega) wx (hsat.of hx)
          rwa [hse] at this)
        have HFN := Lib.hid FN; clear FN
        have hqz3 : w.heap.size < w3.heap.size + 1 := Nat.lt_succ_of_lt qz
        have qzr : w.heap.size < wr.heap.size := Nat.lt_of_lt_of_le qz hin.size
        have qr0 : wr.cell? ⟨w.heap.size, 0, none⟩ = some (.int .i64 0) := (hin.cells _ _ qz).trans q0
        have qr1 : wr.cell? ⟨w.heap.size, 1, none⟩ = some (.int .u32 0) := (hin.cells _ _ qz).trans q1
        have qr2 : wr.cell? ⟨w.heap.size, 2, none⟩ = some (.int .u32 0) := (hin.cells _ _ qz).trans q2
        have qr3 : wr.cell? ⟨w.heap.size, 3, none⟩ = some (.slice none 0 0) := (hin.cells _ _ qz).trans q3
        have qrf : ∀ o, wr.frozen? ⟨w.heap.size, o, none⟩ = false := fun o => (hin.frozens _ _ qz).trans (qf o)
        have HFE := Lib.hid hfe; clear hfe hse
        go_wp2_with fail
        refine HFN.out.mono ?_; rintro e5 w5 ⟨rfl, hw5⟩
        have p50 : w5.cell? ⟨w3.heap.size, 0, none⟩ = some (.int .i64 (S : Int)) := (hw5.cells _ _ hRz).trans p0
        have p51 : w5.cell? ⟨w3.heap.size, 1, none⟩ = some (.int .u32 (q : Int)) := (hw5.cells _ _ hRz).trans p1
        have p52 : w5.cell? ⟨w3.heap.size, 2, none⟩ = some (.int .u32 (t : Int)) := (hw5.cells _ _ hRz).trans p2
        have p53 : w5.cell? ⟨w3.heap.size, 3, none⟩ = some (.slice As vs.length cs) := (hw5.cells _ _ hRz).trans p3
        have z50 : w5.cell? ⟨w.heap.size, 0, none⟩ = some (.int .i64 0) := (hw5.cells _ _ qzr).trans qr0
        have z51 : w5.cell? ⟨w.heap.size, 1, none⟩ = some (.int .u32 0) := (hw5.cells _ _ qzr).trans qr1
        have z52 : w5.cell? ⟨w.heap.size, 2, none⟩ = some (.int .u32 0) := (hw5.cells _ _ qzr).trans qr2
        have z53 : w5.cell? ⟨w.heap.size, 3, none⟩ = some (.slice none 0 0) := (hw5.cells _ _ qzr).trans qr3
        have z5f : ∀ o, w5.frozen? ⟨w.heap.size, o, none⟩ = false := fun o => (hw5.frozens _ _ qzr).trans (qrf o)
        have hRz5 : w3.heap.size < w5.heap.size := Nat.lt_of_lt_of_le hRz hw5.size
        have qz5 : w.heap.size < w5.heap.size := Nat.lt_of_lt_of_le qzr hw5.size
        have hW5 : Within w w5 := hWw.trans hw5
        cases fb
        · go_wp2
          have E := HER.out; have R := HRD.out
          simp at E; subst E; simp at R; subst R
          refine bodyPost_ret (v := .tuple #[.agg #[.int .i64 0, .int .u32 0, .int .u32 0, .slice none 0 0], .int .i64 211]) (by simp [results, Tryz.results48, go_sem, z50, z51, z52, z53]) rfl ⟨_, rfl, OwnF.nil_ _ _, (by repeat (first | with_reducible exact hW5 | with_reducible refine Within.setCell ?_ (Nat.le_refl _) _))⟩
        · go_wp2_with fail
          refine (SGL.out _ hw5).mono ?_; rintro e6 w6 ⟨rfl, hw6⟩
          have p60 : w6.cell? ⟨w3.heap.size, 0, none⟩ = some (.int .i64 (S : Int)) := (hw6.cells _ _ hRz5).trans p50
          have p61 : w6.cell? ⟨w3.heap.size, 1, none⟩ = some (.int .u32 (q : Int)) := (hw6.cells _ _ hRz5).trans p51
          have p62 : w6.cell? ⟨w3.heap.size, 2, none⟩ = some (.int .u32 (t : Int)) := (hw6.cells _ _ hRz5).trans p52
          have p63 : w6.cell? ⟨w3.heap.size, 3, none⟩ = some (.slice As vs.length cs) := (hw6.cells _ _ hRz5).trans p53
          have z60 : w6.cell? ⟨w.heap.size, 0, none⟩ = some (.int .i64 0) := (hw6.cells _ _ qz5).trans z50
          have z61 : w6.cell? ⟨w.heap.size, 1, none⟩ = some (.int .u32 0) := (hw6.cells _ _ qz5).trans z51
          have z62 : w6.cell? ⟨w.heap.size, 2, none⟩ = some (.int .u32 0) := (hw6.cells _ _ qz5).trans z52
          have z63 : w6.cell? ⟨w.heap.size, 3, none⟩ = some (.slice none 0 0) := (hw6.cells _ _ qz5).trans z53
          have z6f : ∀ o, w6.frozen? ⟨w.heap.size, o, none⟩ = false := fun o => (hw6.frozens _ _ qz5).trans (z5f o)
          have qz6 : w.heap.size < w6.heap.size := Nat.lt_of_lt_of_le qz5 hw6.size
          have hW6 : Within w w6 := hW5.trans hw6
          have HOW6 := Lib.hid ((HOW.out.of hw5).of hw6)
          cases sb
          · go_wp2
            have E := HER.out; have R := HRD.out
            simp at E; subst E; simp at R; subst R
            refine bodyPost_ret (v := .tuple #[.agg #[.int .i64 (S : Int), .int .u32 (q : Int), .int .u32 (t : Int), .slice As vs.length cs], .int .i64 0]) (by simp [results, Tryz.results48, go_sem, z60, z61, z62, z63]) rfl ⟨_, rfl, ?_, (by repeat (first | with_reducible exact hW6 | with_reducible refine Within.setCell ?_ (Nat.le_refl _) _))⟩
            have hvv : vs = rdVals pf true k d := map_fin HVS.out HFE.out HFB.out
            rw [show (Rd.mk S q t (rdVals pf true k d)).vals = vs from hvv.symm]
            refine OwnF.less (base := w3.heap.size + 1) ?_ (Nat.le_of_lt hqz3)
            repeat (first | with_reducible exact HOW6.out | with_reducible refine OwnF.set ?_ hqz3 _)
          · go_wp2
            have E := HER.out; have R := HRD.out
            simp at E; subst E; simp at R; subst R
            refine bodyPost_ret (v := .tuple #[.agg #[.int .i64 0, .int .u32 0, .int .u32 0, .slice none 0 0], .int .i64 211]) (by simp [results, Tryz.results48, go_sem, z60, z61, z62, z63]) rfl ⟨_, rfl, OwnF.nil_ _ _, (by repeat (first | with_reducible exact hW6 | with_reducible refine Within.setCell ?_ (Nat.le_refl _) _))⟩
end Go.Proofs.YtpmjlaiafgbjgaaGreatDoor
end

section
namespace Go.Proofs.YtpmjlaiafgbjgaaGreatDoor
open Go.RowKit
set_option maxRecDepth 100000 in
set_option maxHeartbeats 1000000 in
theorem Runpack_near (ad : Addr) (c m K : Nat) (l : List Nat) (hm : 12 ≤ m ∧ m ≤ 60) (hc : m + 4 ≤ c) (RH : Hid (∀ w, SlAt w (some ad) (u8v l) → Calls Tryz.prog 73 #[.slice (some ad) (m + 4) c] w fun e w' => e = .returned (.bool true) ∧ w = w')) (RS : Hid (∀ w, Calls Tryz.prog 74 #[.int .u8 (K : Int)] w fun e w' => e = .returned (.int .i64 ((m + 4 : Nat) : Int)) ∧ w = w')) (h3 : ∀ w, SlAt w (some ad) (u8v l) → w.cell? ⟨ad.block, ad.off + 3, none⟩ = some (.int .u8 (K : Int))) (G C : Nat) (hC : C < 4294967296) (GT : Hid (∀ w, SlAt w (some ad) (u8v l) → Calls Tryz.prog 63 #[.slice (some (ad.add m)) 4 (c - m)] w fun e w' => e = .returned (.int .u64 (G : Int)) ∧ w = w')) (SM : Hid (∀ w, SlAt w (some ad) (u8v l) → Calls Tryz.prog 56 #[.slice (some ad) m c] w fun e w' => e = .returned (.int .u32 (C : Int)) ∧ w = w')) (S q t : Nat) (hS : S < 256) (hq : q < 4294967296) (ht : t < 4294967296) (GQ : Hid (∀ w, SlAt w (some ad) (u8v l) → Calls Tryz.prog 63 #[.slice (some ⟨ad.block, ad.off + 4, none⟩) 4 (c - 4)] w fun e w' => e = .returned (.int .u64 (q : Int)) ∧ w = w')) (GT4 : Hid (∀ w, SlAt w (some ad) (u8v l) → Calls Tryz.prog 63 #[.slice (some ⟨ad.block, ad.off + 8, none⟩) 4 (c - 8)] w fun e w' => e = .returned (.int .u64 (t : Int)) ∧ w = w')) (h2 : ∀ w, SlAt w (some ad) (u8v l) → w.cell? ⟨ad.block, ad.off + 2, none⟩ = some (.int .u8 (S : Int))) (n : Nat) (hn : n ≤ 6) (hmn : m = 12 + 4 * n) (hK : decide (128 ≤ (K : Int)) = false) (d : List Nat) (hd : d = (l.drop 12).take (4 * n)) (hbd : Bytes d) (hdl : d.length = 4 * n) (hbl : Bytes l) (hll : l.length = m + 4) (fb sb : Bool) (hfb : (rdVals pf false n d).all finD = fb) (hsb : (rdVals pf false n d).all isSD = sb) (er : Int) (her : er = if fb = false ∨ false = sb then 211 else 0) (rd : Rd) (hrd : rd = if er = 0 then ⟨S, q, t, rdVals pf false n d⟩ else noRd) (hs : ((C : Int) != (G : Int)) = false) (w : World) (hr : SlAt w (some ad) (u8v l)) : Calls Tryz.prog 48 #[.slice (some ad) (m + 4) c] w (RetR w rd er) := by
  have HFB := Lib.hid hfb; have HSB := Lib.hid hsb; have HER := Lib.hid her; have HBD := Lib.hid hbd; have HDL := Lib.hid hdl; have HD := Lib.hid hd; have HRD := Lib.hid hrd; have HBL := Lib.hid hbl; have HLL := Lib.hid hll; clear hrd hfb hsb her hbd hdl hd hbl hll
  have HR := Lib.hid hr; clear hr
  have HH3 := Lib.hid h3; clear h3
  obtain ⟨m1, m2⟩ := hm
  have hn0 : (((m + 4 : Nat) : Int) != ((m + 4 : Nat) : Int)) = false := by rw [bne_eq_false_iff_eq]
  have hn1 : ((m : Int) + 4 != (m : Int) + 4) = false := by rw [bne_eq_false_iff_eq]
  have d4 : decide ((m : Int) + 4 < 4) = false := decide_eq_false (by omega)
  have l3 : (3 : Int) < (m : Int) + 4 := by omega
  have w4 : IntKind.i64.wrap (m : Int) = (m : Int) := by rw [IntKind.wrap_i64]; omega
  have hcm : ¬ c = m := by omega
  have hle : (m : Int) ≤ (m : Int) + 4 := by omega
  have hmc : m ≤ c := by omega
  have gC : IntKind.u64.wrap (C : Int) = (C : Int) := by rw [IntKind.wrap_u64]; omega
  clear hC
  have w32q : IntKind.u32.wrap (q : Int) = (q : Int) := by rw [IntKind.wrap_u32]; omega
  have w32t : IntKind.u32.wrap (t : Int) = (t : Int) := by rw [IntKind.wrap_u32]; omega
  have wS : IntKind.i64.wrap (S : Int) = (S : Int) := by rw [IntKind.wrap_i64]; omega
  have hc4 : ¬ c = 4 := by omega
  have hc8 : ¬ c = 8 := by omega
  have hc12 : ¬ c = 12 := by omega
  have l8 : (8 : Int) ≤ (c : Int) := by omega
  have l12 : (12 : Int) ≤ (c : Int) := by omega
  have l2 : (2 : Int) < (m : Int) + 4 := by omega
  have l12m : (12 : Int) ≤ (m : Int) := by omega
  have HH := Lib.hid h2; have HMN := Lib.hid hmn; clear h2 hmn
  have HS := Lib.hid (And.intro hS (And.intro hq ht)); clear hS hq ht
  go_enter Tryz.func48, Tryz.ntmps48
  go_wp2_with fail
  have hw1 := HR.out.of ((Within.refl w).alloc (.cells #[.int .i64 0, .int .u32 0, .int .u32 0, .slice none 0 0] 64))
  have k3 := HH3.out _ hw1
  refine (RH.out _ hw1).mono ?_; rintro e1 w1 ⟨rfl, rfl⟩
  go_wp2_with fail
  refine (RS.out _).mono ?_; rintro e2 w2 ⟨rfl, rfl⟩
  clear k3
  go_wp2
  refine wp_region_within (by kernel_rfl) (by kernel_rfl) ?_
  repeat
    apply wpq_step rfl
    · intro wq hCq
      have hsl := HR.out.of ((((Within.refl w).alloc _).trans hCq))
      go_simp
      first | rfl | exact hCq.same (GT.out _ hsl) | exact hCq.same (SM.out _ hsl) | (trace_state; fail)
    try simp only [Act.put, List.setIfInBounds_toArray, List.set_cons_zero, List.set_cons_succ]
  refine wpQuiet_nil ?_
  intro w3 hb3
  have q0 : w3.cell? ⟨w.heap.size, 0, none⟩ = some (.int .i64 0) := (hb3.cells _ _ (by simp)).trans (by simp)
  have q1 : w3.cell? ⟨w.heap.size, 1, none⟩ = some (.int .u32 0) := (hb3.cells _ _ (by simp)).trans (by simp)
  have q2 : w3.cell? ⟨w.heap.size, 2, none⟩ = some (.int .u32 0) := (hb3.cells _ _ (by simp)).trans (by simp)
  have q3 : w3.cell? ⟨w.heap.size, 3, none⟩ = some (.slice none 0 0) := (hb3.cells _ _ (by simp)).trans (by simp)
  have qf : ∀ o, w3.frozen? ⟨w.heap.size, o, none⟩ = false := fun o => (hb3.frozens _ _ (by simp)).trans (by simp)
  have qz : w.heap.size < w3.heap.size := World.block_lt_of_cell? _ _ q0
  go_upto_region 6 with fail
  go_cut [5] (fun s5 wx => s5 = .pointer (some ⟨w3.heap.size, 0, none⟩) ∧ (wx.cell? ⟨w3.heap.size, 0, none⟩ = some (.int .i64 (S : Int)) ∧ wx.cell? ⟨w3.heap.size, 1, none⟩ = some (.int .u32 (q : Int)) ∧ wx.cell? ⟨w3.heap.size, 2, none⟩ = some (.int .u32 (t : Int)) ∧ wx.cell? ⟨w3.heap.size, 3, none⟩ = some (.slice none 0 0) ∧ (∀ o, wx.frozen? ⟨w3.heap.size, o, none⟩ = false) ∧ Within w3 wx))
  case first =>
    have h2 := HH.out
    refine wp_region_schG (fun W => SlAt W (some ad) (u8v l) ∧ W.heap.size = w3.heap.size ∧ Within w3 W) 14 (.firm 0 (.firm 1 (.firm 2 (.firm 3 (.firm 4 (.firm 5 (.firm 8 (.firm 9 (.two 6 (.firm 7 (.two 10 (.firm 11 (.firm 12 (.one 13 (.one 14 .nil)))) 13 (.one 10 (.firm 11 (.firm 12 (.one 14 .nil)))))) 13 (.one 6 (.firm 7 (.one 10 (.firm 11 (.firm 12 (.one 14 .nil))))))))))))))) (by kernel_rfl) (by kernel_rfl) ⟨HR.out.of ((Within.refl w).alloc _ |>.trans hb3), rfl, Within.refl _⟩ ?_
    rintro w0 ⟨hs0, hz1, hw0⟩
    try simp only [Act.put, List.setIfInBounds_toArray, List.set_cons_zero, List.set_cons_succ]
    iterate 8
      apply sch_firm rfl rfl (by repeat (first | with_reducible exact Within.refl _ | with_reducible assumption | with_reducible refine Within.alloc ?_ _ | with_reducible refine Within.drew ?_ | with_reducible refine Within.drewN ?_ _ | with_reducible refine Within.setCell ?_ (by first | (simp; done) | (simp; omega)) _ | with_reducible refine Within.trans ?_ (by assumption)))
      · intro wq hq
        have hcq := hq.cells
        have hcell := h2 _ (hs0.of hq)
        clear hq
        go_simp
        rfl
      try simp only [Act.put, List.setIfInBounds_toArray, List.set_cons_zero, List.set_cons_succ]
    refine sch_two rfl rfl rfl rfl (fun K hK => ?_) (fun K hK => ?_)
    · go_simp
      refine (GQ.out _ (by first | exact hs0 | exact hs0.of ((Within.refl _).drew) | exact hs0.of (((Within.refl _).drew).alloc _))).mono ?_; rintro e4 w4 ⟨rfl, rfl⟩
      refine hK _ _ (by repeat (first | with_reducible exact Within.refl _ | with_reducible assumption | with_reducible refine Within.alloc ?_ _ | with_reducible refine Within.drew ?_ | with_reducible refine Within.drewN ?_ _ | with_reducible refine Within.setCell ?_ (by first | (simp; done) | (simp; omega)) _ | with_reducible refine Within.trans ?_ (by assumption))) ?_
      clear hK K
      try simp only [Act.put, List.setIfInBounds_toArray, List.set_cons_zero, List.set_cons_succ]
      apply sch_firm rfl rfl (by repeat (first | with_reducible exact Within.refl _ | with_reducible assumption | with_reducible refine Within.alloc ?_ _ | with_reducible refine Within.drew ?_ | with_reducible refine Within.drewN ?_ _ | with_reducible refine Within.setCell ?_ (by first | (simp; done) | (simp; omega)) _ | with_reducible refine Within.trans ?_ (by assumption)))
      · intro wq hq
        have hcq := hq.cells
        have hcell := h2 _ (hs0.of hq)
        clear hq
        go_simp
        rfl
      try simp only [Act.put, List.setIfInBounds_toArray, List.set_cons_zero, List.set_cons_succ]
      refine sch_two rfl rfl rfl rfl (fun K hK => ?_) (fun K hK => ?_)
      · go_simp
        refine (GT4.out _ (by first | exact hs0 | exact hs0.of ((Within.refl _).drew) | exact hs0.of (((Within.refl _).drew).alloc _))).mono ?_; rintro e5 w5 ⟨rfl, rfl⟩
        refine hK _ _ (by repeat (first | with_reducible exact Within.refl _ | with_reducible assumption | with_reducible refine Within.alloc ?_ _ | with_reducible refine Within.drew ?_ | with_reducible refine Within.drewN ?_ _ | with_reducible refine Within.setCell ?_ (by first | (simp; done) | (simp; omega)) _ | with_reducible refine Within.trans ?_ (by assumption))) ?_
        clear hK K
        try simp only [Act.put, List.setIfInBounds_toArray, List.set_cons_zero, List.set_cons_succ]
        iterate 2
          apply sch_firm rfl rfl (by repeat (first | with_reducible exact Within.refl _ | with_reducible assumption | with_reducible refine Within.alloc ?_ _ | with_reducible refine Within.drew ?_ | with_reducible refine Within.drewN ?_ _ | with_reducible refine Within.setCell ?_ (by first | (simp; done) | (simp; omega)) _ | with_reducible refine Within.trans ?_ (by assumption)))
          · intro wq hq
            have hcq := hq.cells
            have hcell := h2 _ (hs0.of hq)
            clear hq
            go_simp
            rfl
          try simp only [Act.put, List.setIfInBounds_toArray, List.set_cons_zero, List.set_cons_succ]
        refine sch_one rfl rfl (fun K hK => ?_)
        go_simp
        refine hK _ _ (fun _ => (by repeat (first | with_reducible exact Within.refl _ | with_reducible assumption | with_reducible refine Within.alloc ?_ _ | with_reducible refine Within.drew ?_ | with_reducible refine Within.drewN ?_ _ | with_reducible refine Within.setCell ?_ (by first | (simp; done) | (simp; omega)) _ | with_reducible refine Within.trans ?_ (by assumption)))) ?_
        clear hK K
        try simp only [Act.put, List.setIfInBounds_toArray, List.set_cons_zero, List.set_cons_succ]
        refine sch_one rfl rfl (fun K hK => ?_)
        go_simp
        refine hK _ _ (fun h => absurd h (by decide)) ?_
        clear hK K
        try simp only [Act.put, List.setIfInBounds_toArray, List.set_cons_zero, List.set_cons_succ]
        refine sch_nil ?_
        go_wp2_with fail
        go_meet
        exact ⟨rfl, by go_simp, by go_simp, by go_simp, by go_simp, fun o => by go_simp, (by repeat (first | with_reducible exact Within.refl _ | with_reducible assumption | with_reducible refine Within.alloc ?_ _ | with_reducible refine Within.drew ?_ | with_reducible refine Within.drewN ?_ _ | with_reducible refine Within.setCell ?_ (by first | (simp; done) | (simp; omega)) _ | with_reducible refine Within.trans ?_ (by assumption)))⟩
      · go_simp
        refine hK _ _ (by repeat (first | with_reducible exact Within.refl _ | with_reducible assumption | with_reducible refine Within.alloc ?_ _ | with_reducible refine Within.drew ?_ | with_reducible refine Within.drewN ?_ _ | with_reducible refine Within.setCell ?_ (by first | (simp; done) | (simp; omega)) _ | with_reducible refine Within.trans ?_ (by assumption))) ?_
        clear hK K
        try simp only [Act.put, List.setIfInBounds_toArray, List.set_cons_zero, List.set_cons_succ]
        refine sch_one rfl rfl (fun K hK => ?_)
        go_simp
        refine (GT4.out _ (by first | exact hs0 | exact hs0.of ((Within.refl _).drew) | exact hs0.of (((Within.refl _).drew).alloc _))).mono ?_; rintro e5 w5 ⟨rfl, rfl⟩
        refine hK _ _ (fun _ => (by repeat (first | with_reducible exact Within.refl _ | with_reducible assumption | with_reducible refine Within.alloc ?_ _ | with_reducible refine Within.drew ?_ | with_reducible refine Within.drewN ?_ _ | with_reducible refine Within.setCell ?_ (by first | (simp; done) | (simp; omega)) _ | with_reducible refine Within.trans ?_ (by assumption)))) ?_
        clear hK K
        try simp only [Act.put, List.setIfInBounds_toArray, List.set_cons_zero, List.set_cons_succ]
        iterate 2
          apply sch_firm rfl rfl (by repeat (first | with_reducible exact Within.refl _ | with_reducible assumption | with_reducible refine Within.alloc ?_ _ | with_reducible refine Within.drew ?_ | with_reducible refine Within.drewN ?_ _ | with_reducible refine Within.setCell ?_ (by first | (simp; done) | (simp; omega)) _ | with_reducible refine Within.trans ?_ (by assumption)))
          · intro wq hq
            have hcq := hq.cells
            have hcell := h2 _ (hs0.of hq)
            clear hq
            go_simp
            rfl
          try simp only [Act.put, List.setIfInBounds_toArray, List.set_cons_zero, List.set_cons_succ]
        refine sch_one rfl rfl (fun K hK => ?_)
        go_simp
        refine hK _ _ (fun h => absurd h (by decide)) ?_
        clear hK K
        try simp only [Act.put, List.setIfInBounds_toArray, List.set_cons_zero, List.set_cons_succ]
        refine sch_nil ?_
        go_wp2_with fail
        go_meet
        exact ⟨rfl, by go_simp, by go_simp, by go_simp, by go_simp, fun o => by go_simp, (by repeat (first | with_reducible exact Within.refl _ | with_reducible assumption | with_reducible refine Within.alloc ?_ _ | with_reducible refine Within.drew ?_ | with_reducible refine Within.drewN ?_ _ | with_reducible refine Within.setCell ?_ (by first | (simp; done) | (simp; omega)) _ | with_reducible refine Within.trans ?_ (by assumption)))⟩
    · go_simp
      refine hK _ _ (by repeat (first | with_reducible exact Within.refl _ | with_reducible assumption | with_reducible refine Within.alloc ?_ _ | with_reducible refine Within.drew ?_ | with_reducible refine Within.drewN ?_ _ | with_reducible refine Within.setCell ?_ (by first | (simp; done) | (simp; omega)) _ | with_reducible refine Within.trans ?_ (by assumption))) ?_
      clear hK K
      try simp only [Act.put, List.setIfInBounds_toArray, List.set_cons_zero, List.set_cons_succ]
      refine sch_one rfl rfl (fun K hK => ?_)
      go_simp
      refine (GQ.out _ (by first | exact hs0 | exact hs0.of ((Within.refl _).drew) | exact hs0.of (((Within.refl _).drew).alloc _))).mono ?_; rintro e4 w4 ⟨rfl, rfl⟩
      refine hK _ _ (fun _ => (by repeat (first | with_reducible exact Within.refl _ | with_reducible assumption | with_reducible refine Within.alloc ?_ _ | with_reducible refine Within.drew ?_ | with_reducible refine Within.drewN ?_ _ | with_reducible refine Within.setCell ?_ (by first | (simp; done) | (simp; omega)) _ | with_reducible refine Within.trans ?_ (by assumption)))) ?_
      clear hK K
      try simp only [Act.put, List.setIfInBounds_toArray, List.set_cons_zero, List.set_cons_succ]
      apply sch_firm rfl rfl (by repeat (first | with_reducible exact Within.refl _ | with_reducible assumption | with_reducible refine Within.alloc ?_ _ | with_reducible refine Within.drew ?_ | with_reducible refine Within.drewN ?_ _ | with_reducible refine Within.setCell ?_ (by first | (simp; done) | (simp; omega)) _ | with_reducible refine Within.trans ?_ (by assumption)))
      · intro wq hq
        have hcq := hq.cells
        have hcell := h2 _ (hs0.of hq)
        clear hq
        go_simp
        rfl
      try simp only [Act.put, List.setIfInBounds_toArray, List.set_cons_zero, List.set_cons_succ]
      refine sch_one rfl rfl (fun K hK => ?_)
      go_simp
      refine (GT4.out _ (by first | exact hs0 | exact hs0.of ((Within.refl _).drew) | exact hs0.of (((Within.refl _).drew).alloc _))).mono ?_; rintro e5 w5 ⟨rfl, rfl⟩
      refine hK _ _ (fun _ => (by repeat (first | with_reducible exact Within.refl _ | with_reducible assumption | with_reducible refine Within.alloc ?_ _ | with_reducible refine Within.drew ?_ | with_reducible refine Within.drewN ?_ _ | with_reducible refine Within.setCell ?_ (by first | (simp; done) | (simp; omega)) _ | with_reducible refine Within.trans ?_ (by assumption)))) ?_
      clear hK K
      try simp only [Act.put, List.setIfInBounds_toArray, List.set_cons_zero, List.set_cons_succ]
      iterate 2
        apply sch_firm rfl rfl (by repeat (first | with_reducible exact Within.refl _ | with_reducible assumption | with_reducible refine Within.alloc ?_ _ | with_reducible refine Within.drew ?_ | with_reducible refine Within.drewN ?_ _ | with_reducible refine Within.setCell ?_ (by first | (simp; done) | (simp; omega)) _ | with_reducible refine Within.trans ?_ (by assumption)))
        · intro wq hq
          have hcq := hq.cells
          have hcell := h2 _ (hs0.of hq)
          clear hq
          go_simp
          rfl
        try simp only [Act.put, List.setIfInBounds_toArray, List.set_cons_zero, List.set_cons_succ]
      refine sch_one rfl rfl (fun K hK => ?_)
      go_simp
      refine hK _ _ (fun h => absurd h (by decide)) ?_
      clear hK K
      try simp only [Act.put, List.setIfInBounds_toArray, List.set_cons_zero, List.set_cons_succ]
      refine sch_nil ?_
      go_wp2_with fail
      go_meet
      exact ⟨rfl, by go_simp, by go_simp, by go_simp, by go_simp, fun o => by go_simp, (by repeat (first | with_reducible exact Within.refl _ | with_reducible assumption | with_reducible refine Within.alloc ?_ _ | with_reducible refine Within.drew ?_ | with_reducible refine Within.drewN ?_ _ | with_reducible refine Within.setCell ?_ (by first | (simp; done) | (simp; omega)) _ | with_reducible refine Within.trans ?_ (by assumption)))⟩
  case rest =>
    obtain ⟨rfl, r0, r1, r2, r3, rf, hw6⟩ := hcut
    have hsl3 : SlAt w3 (some ad) (u8v l) := HR.out.of ((Within.refl w).alloc _ |>.trans hb3)
    have k3 := HH3.out _ (hsl3.of hw6)
    go_wp2
    go_loopw [7] (fun vv wr => RunRel w3 d false n S q t vv wr) (fun vv _ => upTo m vv)
    case atStart => exact ⟨0, 12, [], .slice none 0 0, Nat.zero_le _, rfl, rfl, rfl, (fun x hx => by cases hx), OwnF.nil_ _ _, r0, r1, r2, r3, rf, hw6⟩
    case round =>
      obtain ⟨k, a, vs, sl, hk, rfl, ha, hvs, hwv, hown, p0, p1, p2, p3, pf', hin⟩ := hrel
      have HVS := Lib.hid hvs; have HWV := Lib.hid hwv; clear hvs hwv
      have hvl : vs.length = k := by have := congrArg List.length HVS.out; rwa [List.length_map, List.length_map, rdVals_len] at this
      have hRz : w3.heap.size < wr.heap.size := World.block_lt_of_cell? wr _ p0
      obtain ⟨As, cs, rfl, _, hsat, _⟩ := hown.form
      have HOW := Lib.hid hown; have HVL := Lib.hid hvl; clear hown hvl
      by_cases hlt : k < n
      · have ha12 : a = 12 + 4 * k := by rw [ha]; rfl
        have hmn' := HMN.out
        have dm : decide ((a : Int) < (m : Int)) = true := decide_eq_true (by omega)
        have dn : a < m := by simpa using of_decide_eq_true dm
        have a8 : IntKind.i64.wrap ((a : Int) + 4) = (a : Int) + 4 := by rw [IntKind.wrap_i64]; omega
        have ac : a + 4 ≤ c := by omega
        have aci : (a : Int) + 4 ≤ (c : Int) := by omega
        have aa : (a : Int) ≤ (a : Int) + 4 := by omega
        have ca : ¬ c = a := by omega
        have al : a ≤ c := by omega
        have am : (a : Int) + 4 ≤ (m : Int) + 4 := by omega
        have ai0 : (0 : Int) ≤ (a : Int) := by omega
        have ai8 : (0 : Int) ≤ (a : Int) + 4 := by omega
        obtain ⟨X, hX⟩ : ∃ X, X = leVal ((l.drop a).take 4) := ⟨_, rfl⟩
        have hsl3' : SlAt wr (some ad) (u8v l) := hsl3.of hin
        have GV : Calls Tryz.prog 63 #[.slice (some (ad.add a)) 4 (c - a)] wr fun e w' => e = .returned (.int .u64 (X : Int)) ∧ wr = w' := by
          rw [hX]; exact Rtake_at ad c a 4 l HBL.out (by decide) (by rw [HLL.out]; omega) _ wr hsl3'
        have HGV := Lib.hid GV; clear GV
        have hX2 : X < 2 ^ 32 := by rw [hX]; have := leVal_lt ((HBL.out.drop a).take 4); rwa [show ((l.drop a).take 4).length = 4 by rw [List.length_take, List.length_drop, HLL.out]; omega] at this
        have hXd : X = leVal ((d.drop (stp false * k)).take 4) := by
          rw [hX, HD.out, List.drop_take, List.drop_drop, List.take_take, ha]
          rw [Nat.min_eq_left (by show 4 ≤ 4 * n - 4 * k; omega)]
        have hX2' : X < 4294967296 := by omega
        have hcv : ∀ w, (convert 112 68 (.float .f32 X)).run Tryz.prog w = .ok (.float .f64 (wideV X w)) (wideW X w) := fun w => conv_wide (by kernel_rfl) (by kernel_rfl) X hX2' w
        have gX : IntKind.u32.wrap (X : Int) = (X : Int) := by rw [IntKind.wrap_u32]; omega
        clear hX2'
        have hWz : w3.heap.size + 1 ≤ (wideW X wr).heap.size := Nat.le_trans hRz (wideW_in wr).size
        have hWW : Below (w3.heap.size + 1) wr (wideW X wr) := (wideW_in wr).mono hRz
        obtain ⟨v1, w1, hrun, hown1, hbl2⟩ := run_app_float (wideW X wr) (w3.heap.size + 1) _ vs (wideV X wr) (HOW.out.of (wideW_in _)) (by have := HVL.out; omega) hWz
        have hbl1 : Below (w3.heap.size + 1) wr w1 := Below.trans hWW hbl2
        obtain ⟨A1, c1, hv1, _⟩ := hown1.form
        obtain ⟨N1, hN1⟩ : ∃ N1, N1 = (vs ++ [(wideV X wr)]).length := ⟨_, rfl⟩
        rw [← hN1] at hv1
        subst hv1
        have RUN := Lib.hid hrun; clear hrun
        have pw3 : (wideW X wr).cell? ⟨w3.heap.size, 3, none⟩ = some (.slice As vs.length cs) := ((wideW_in wr).cells _ _ hRz).trans p3
        have g0 : w1.cell? ⟨w3.heap.size, 0, none⟩ = some (.int .i64 (S : Int)) := (hbl1.cell (p := ⟨w3.heap.size, 0, none⟩) (Nat.lt_succ_self _)).trans p0
        have g1 : w1.cell? ⟨w3.heap.size, 1, none⟩ = some (.int .u32 (q : Int)) := (hbl1.cell (p := ⟨w3.heap.size, 1, none⟩) (Nat.lt_succ_self _)).trans p1
        have g2 : w1.cell? ⟨w3.heap.size, 2, none⟩ = some (.int .u32 (t : Int)) := (hbl1.cell (p := ⟨w3.heap.size, 2, none⟩) (Nat.lt_succ_self _)).trans p2
        have g3 : w1.cell? ⟨w3.heap.size, 3, none⟩ = some (.slice As vs.length cs) := (hbl1.cell (p := ⟨w3.heap.size, 3, none⟩) (Nat.lt_succ_self _)).trans p3
        have gf : ∀ o, w1.frozen? ⟨w3.heap.size, o, none⟩ = false := fun o => (hbl1.frozen (p := ⟨w3.heap.size, o, none⟩) (Nat.lt_succ_self _)).trans (pf' o)
        have HA := Lib.hid ha12; have HX2 := Lib.hid hX2; have HXD := Lib.hid hXd; have HN1 := Lib.hid hN1; have HN1 := Lib.hid hN1; clear ha ha12 hX2 hXd hX hmn' hN1
        go_wp2_with fail
        refine HGV.out.mono ?_; rintro e5 w5 ⟨rfl, rfl⟩
        go_wp2_with (at_builtin; refine wpList_append_run rfl (.tmp 83) (.tmp 85) 62 rfl _ _ rfl rfl RUN.out ?_)
        go_roundw
        case rel =>
          have hN1 := HN1.out; rw [List.length_append, List.length_singleton] at hN1; subst hN1
          have hXc : canonD (wideV X wr) = canonD (if false = true then leVal ((d.drop (stp false * k)).take 8) else pf.wb (leVal ((d.drop (stp false * k)).take 4))) := by rw [wideV_canon (by have := HX2.out; omega), if_neg (by decide), ← HXD.out]; exact wide_canon.symm
          have hst := RunRel.step (a := a + 4) hlt (by rw [HA.out]; show 12 + 4 * k + 4 = 12 + 4 * (k + 1); omega) HVS.out hXc (wideV_lt (by have := HX2.out; omega) _) HWV.out hown1 g0 g1 g2 (by rw [g3]; rfl) gf (show Within w3 w1 from Below.trans hin (hbl1.mono (Nat.le_succ _)))
          simpa using hst
        case measure =>
          have := of_decide_eq_true dm; simp only [upTo]; omega
      · have hkn : k = n := by omega
        subst hkn
        have HA := Lib.hid ha; clear ha
        have dm : decide ((a : Int) < (m : Int)) = false := decide_eq_false (by have := HA.out; have := HMN.out; simp only [stp, Bool.false_eq_true, if_false] at *; omega)
        have dn : ¬ a < m := by simpa using of_decide_eq_false dm
        have dk : m ≤ a := by omega
        have hfe : vs.all finD = fb := (map_all (fun _ _ h => finD_same h) HVS.out).trans HFB.out
        have hse : vs.all isSD = sb := (map_all (fun _ _ h => isSD_same h) HVS.out).trans HSB.out
        have hWw : Within w wr := (((Within.refl w).alloc _).trans hb3).trans hin
        have FN := RallFinite_any As cs vs HWV.out (by have := HVL.out; omega) wr hsat
        rw [hfe] at FN
        have SGL : Hid (∀ wx, Within wr wx → Calls Tryz.prog 52 #[.slice As vs.length cs] wx fun e w' => e = .returned (.bool sb) ∧ Within wx w') := Lib.hid (fun wx hx => by
          have := Rsingles_any As cs vs HWV.out (by have := HVL.out; omega) wx (hsat.of hx)
          rwa [hse] at this)
        have HFN := Lib.hid FN; clear FN
        have hqz3 : w.heap.size < w3.heap.size + 1 := Nat.lt_succ_of_lt qz
        have qzr : w.heap.size < wr.heap.size := Nat.lt_of_lt_of_le qz hin.size
        have qr0 : wr.cell? ⟨w.heap.size, 0, none⟩ = some (.int .i64 0) := (hin.cells _ _ qz).trans q0
        have qr1 : wr.cell? ⟨w.heap.size, 1, none⟩ = some (.int .u32 0) := (hin.cells _ _ qz).trans q1
        have qr2 : wr.cell? ⟨w.heap.size, 2, none⟩ = some (.int .u32 0) := (hin.cells _ _ qz).trans q2
        have qr3 : wr.cell? ⟨w.heap.size, 3, none⟩ = some (.slice none 0 0) := (hin.cells _ _ qz).trans q3
        have qrf : ∀ o, wr.frozen? ⟨w.heap.size, o, none⟩ = false := fun o => (hin.frozens _ _ qz).trans (qf o)
        have HFE := Lib.hid hfe; clear hfe hse
        go_wp2_with fail
        refine HFN.out.mono ?_; rintro e5 w5 ⟨rfl, hw5⟩
        have p50 : w5.cell? ⟨w3.heap.size, 0, none⟩ = some (.int .i64 (S : Int)) := (hw5.cells _ _ hRz).trans p0
        have p51 : w5.cell? ⟨w3.heap.size, 1, none⟩ = some (.int .u32 (q : Int)) := (hw5.cells _ _ hRz).trans p1
        have p52 : w5.cell? ⟨w3.heap.size, 2, none⟩ = some (.int .u32 (t : Int)) := (hw5.cells _ _ hRz).trans p2
        have p53 : w5.cell? ⟨w3.heap.size, 3, none⟩ = some (.slice As vs.length cs) := (hw5.cells _ _ hRz).trans p3
        have z50 : w5.cell? ⟨w.heap.size, 0, none⟩ = some (.int .i64 0) := (hw5.cells _ _ qzr).trans qr0
        have z51 : w5.cell? ⟨w.heap.size, 1, none⟩ = some (.int .u32 0) := (hw5.cells _ _ qzr).trans qr1
        have z52 : w5.cell? ⟨w.heap.size, 2, none⟩ = some (.int .u32 0) := (hw5.cells _ _ qzr).trans qr2
        have z53 : w5.cell? ⟨w.heap.size, 3, none⟩ = some (.slice none 0 0) := (hw5.cells _ _ qzr).trans qr3
        have z5f : ∀ o, w5.frozen? ⟨w.heap.size, o, none⟩ = false := fun o => (hw5.frozens _ _ qzr).trans (qrf o)
        have hRz5 : w3.heap.size < w5.heap.size := Nat.lt_of_lt_of_le hRz hw5.size
        have qz5 : w.heap.size < w5.heap.size := Nat.lt_of_lt_of_le qzr hw5.size
        have hW5 : Within w w5 := hWw.trans hw5
        cases fb
        · go_wp2
          have E := HER.out; have R := HRD.out
          simp at E; subst E; simp at R; subst R
          refine bodyPost_ret (v := .tuple #[.agg #[.int .i64 0, .int .u32 0, .int .u32 0, .slice none 0 0], .int .i64 211]) (by simp [results, Tryz.results48, go_sem, z50, z51, z52, z53]) rfl ⟨_, rfl, OwnF.nil_ _ _, (by repeat (first | with_reducible exact hW5 | with_reducible refine Within.setCell ?_ (Nat.le_refl _) _))⟩
        · go_wp2_with fail
          refine (SGL.out _ hw5).mono ?_; rintro e6 w6 ⟨rfl, hw6⟩
          have p60 : w6.cell? ⟨w3.heap.size, 0, none⟩ = some (.int .i64 (S : Int)) := (hw6.cells _ _ hRz5).trans p50
          have p61 : w6.cell? ⟨w3.heap.size, 1, none⟩ = some (.int .u32 (q : Int)) := (hw6.cells _ _ hRz5).trans p51
          have p62 : w6.cell? ⟨w3.heap.size, 2, none⟩ = some (.int .u32 (t : Int)) := (hw6.cells _ _ hRz5).trans p52
          have p63 : w6.cell? ⟨w3.heap.size, 3, none⟩ = some (.slice As vs.length cs) := (hw6.cells _ _ hRz5).trans p53
          have z60 : w6.cell? ⟨w.heap.size, 0, none⟩ = some (.int .i64 0) := (hw6.cells _ _ qz5).trans z50
          have z61 : w6.cell? ⟨w.heap.size, 1, none⟩ = some (.int .u32 0) := (hw6.cells _ _ qz5).trans z51
          have z62 : w6.cell? ⟨w.heap.size, 2, none⟩ = some (.int .u32 0) := (hw6.cells _ _ qz5).trans z52
          have z63 : w6.cell? ⟨w.heap.size, 3, none⟩ = some (.slice none 0 0) := (hw6.cells _ _ qz5).trans z53
          have z6f : ∀ o, w6.frozen? ⟨w.heap.size, o, none⟩ = false := fun o => (hw6.frozens _ _ qz5).trans (z5f o)
          have qz6 : w.heap.size < w6.heap.size := Nat.lt_of_lt_of_le qz5 hw6.size
          have hW6 : Within w w6 := hW5.trans hw6
          have HOW6 := Lib.hid ((HOW.out.of hw5).of hw6)
          cases sb
          · go_wp2
            have E := HER.out; have R := HRD.out
            simp at E; subst E; simp at R; subst R
            refine bodyPost_ret (v := .tuple #[.agg #[.int .i64 0, .int .u32 0, .int .u32 0, .slice none 0 0], .int .i64 211]) (by simp [results, Tryz.results48, go_sem, z60, z61, z62, z63]) rfl ⟨_, rfl, OwnF.nil_ _ _, (by repeat (first | with_reducible exact hW6 | with_reducible refine Within.setCell ?_ (Nat.le_refl _) _))⟩
          · go_wp2
            have E := HER.out; have R := HRD.out
            simp at E; subst E; simp at R; subst R
            refine bodyPost_ret (v := .tuple #[.agg #[.int .i64 (S : Int), .int .u32 (q : Int), .int .u32 (t : Int), .slice As vs.length cs], .int .i64 0]) (by simp [results, Tryz.results48, go_sem, z60, z61, z62, z63]) rfl ⟨_, rfl, ?_, (by repeat (first | with_reducible exact hW6 | with_reducible refine Within.setCell ?_ (Nat.le_refl _) _))⟩
            have hvv : vs = rdVals pf false k d := map_fin HVS.out HFE.out HFB.out
            rw [show (Rd.mk S q t (rdVals pf false k d)).vals = vs from hvv.symm]
            refine OwnF.less (base := w3.heap.size + 1) ?_ (Nat.le_of_lt hqz3)
            repeat (first | with_reducible exact HOW6.out | with_reducible refine OwnF.set ?_ hqz3 _)
end Go.Proofs.YtpmjlaiafgbjgaaGreatDoor
end

section
namespace Go.Proofs.YtpmjlaiafgbjgaaGreatDoor
open Go.RowKit
theorem Runpack_any (A : Option Addr) (c : Nat) (l : List Nat) (hb : Bytes l) (hl : l.length ≤ 1152921504606846976) (hc : l.length ≤ c) (w : World) (hr : SlAt w A (u8v l)) :
    Calls Tryz.prog 48 #[.slice A l.length c] w (RetR w (rdOf l) (unpackE pf l)) := by
  have RH : Hid (∀ w, SlAt w A (u8v l) → Calls Tryz.prog 73 #[.slice A l.length c] w fun e w' => e = .returned (.bool (headB l)) ∧ w = w') := Lib.hid fun w hr => Rhead_any A c l hb hl w hr
  by_cases h4 : l.length < 4
  · rw [rdOf_bad (by rw [E_few h4]; decide), E_few h4]
    exact (Runpack_few A c l (decide_eq_true (by omega)) w).mono fun _ _ h => RetR.bad h
  have h4' : 4 ≤ l.length := by omega
  have d4 : decide ((l.length : Int) < 4) = false := decide_eq_false (by omega)
  cases hh : headB l
  · rw [rdOf_bad (by rw [E_head hh]; decide), E_head hh]
    rw [hh] at RH
    exact (Runpack_head A c l d4 RH w hr).mono fun _ _ h => RetR.bad h
  rw [hh] at RH
  obtain ⟨_, _, hS, hM⟩ := headB_parts hh
  have hK := hb.getD 3
  obtain ⟨K, hKK⟩ : ∃ K, K = l.getD 3 0 := ⟨_, rfl⟩
  obtain ⟨S, hSS⟩ : ∃ S, S = l.getD 2 0 := ⟨_, rfl⟩
  have hst := szOf_stp hK
  rw [← hKK] at hK hM hst
  rw [← hSS] at hS
  obtain ⟨ad, rfl, hblk, hcl⟩ := hr (by rw [u8v_len]; omega)
  have at_ : ∀ k, k < l.length → ∀ w, SlAt w (some ad) (u8v l) → w.cell? (ad.add k) = some (.int .u8 ((l.getD k 0 : Nat) : Int)) := fun k hk w hr => by
    obtain ⟨ad', e', _, hc⟩ := hr.at hk
    obtain rfl := Option.some.inj e'; exact hc
  have h3 : ∀ w, SlAt w (some ad) (u8v l) → w.cell? ⟨ad.block, ad.off + 3, none⟩ = some (.int .u8 (K : Int)) := fun w hr => by rw [← add_plain' ad (by decide), hKK]; exact at_ 3 (by omega) w hr
  have RS : Hid (∀ w, Calls Tryz.prog 74 #[.int .u8 (K : Int)] w fun e w' => e = .returned (.int .i64 (szOf K : Int)) ∧ w = w') := Lib.hid fun w => Rsize_any K hK w
  by_cases hn : l.length = szOf K
  case neg =>
    rw [rdOf_bad (by rw [E_long (by rw [← hKK]; exact hn)]; decide), E_long (by rw [← hKK]; exact hn)]
    exact (Runpack_long ad c l.length K l d4 (by omega) _ (ne_of hn) RH RS h3 w hr).mono fun _ _ h => RetR.bad h
  obtain ⟨n, hnn⟩ : ∃ n, n = K % 128 := ⟨_, rfl⟩
  rw [← hnn] at hM hst
  obtain ⟨wide, hw⟩ : ∃ b, b = decide (128 ≤ K) := ⟨_, rfl⟩
  rw [← hw] at hst
  have hsn : stp wide * n ≤ 48 := by unfold stp; split <;> omega
  obtain ⟨m, hm⟩ : ∃ m, l.length = m + 4 := ⟨l.length - 4, by omega⟩
  have hmn : m = 12 + stp wide * n := by omega
  have hE := E_rest h4' hh (by rw [← hKK]; exact hn)
  have hwB : wideB l = wide := by unfold wideB; rw [← hKK, hw]
  have hlen : l.length = 16 + stp wide * n := hn.trans hst
  have hd12 : (l.drop 12).length = stp wide * n + 4 := by rw [List.length_drop, hlen]; generalize stp wide * n = z; omega
  have hval : valsB pf l = rdVals pf wide n ((l.drop 12).take (stp wide * n)) := by
    rw [rdVals_take]; unfold valsB; rw [hwB, ← hKK, ← hnn]
  have hrd : readB pf l = ⟨S, leVal ((l.drop 4).take 4), leVal ((l.drop 8).take 4), rdVals pf wide n ((l.drop 12).take (stp wide * n))⟩ := by unfold readB; rw [hval, ← hSS]
  rw [hval, hwB, hm, Nat.add_sub_cancel] at hE
  have hG : leVal ((l.drop m).take 4) = leVal (l.drop m) := by rw [List.take_of_length_le (by rw [List.length_drop]; omega)]
  have GT : Hid (∀ w, SlAt w (some ad) (u8v l) → Calls Tryz.prog 63 #[.slice (some (ad.add m)) 4 (c - m)] w fun e w' => e = .returned (.int .u64 (leVal (l.drop m) : Int)) ∧ w = w') := Lib.hid fun w hr => by
    rw [← hG]; exact Rtake_at ad c m 4 l hb (by decide) (by omega) _ w hr
  have SM : Hid (∀ w, SlAt w (some ad) (u8v l) → Calls Tryz.prog 56 #[.slice (some ad) m c] w fun e w' => e = .returned (.int .u32 (crcOf (l.take m) : Int)) ∧ w = w') := Lib.hid fun w hr => by
    have h1 : SlAt w (some ad) (u8v (l.take m)) := by have := hr.take m; unfold u8v at this ⊢; rwa [← List.map_take] at this
    have h2 := Rsum_any (some ad) c (l.take m) (hb.take m) (by rw [List.length_take]; omega) w h1
    rwa [List.length_take, show min m l.length = m by omega] at h2
  rw [hm] at RH
  rw [← hn, hm] at RS
  have GQ : ∀ k, k + 4 ≤ l.length → k ≠ 0 → Hid (∀ w, SlAt w (some ad) (u8v l) → Calls Tryz.prog 63 #[.slice (some ⟨ad.block, ad.off + k, none⟩) 4 (c - k)] w fun e w' => e = .returned (.int .u64 (leVal ((l.drop k).take 4) : Int)) ∧ w = w') := fun k hk h0 => Lib.hid fun w hr => by
    rw [← add_plain' ad h0]; exact Rtake_at ad c k 4 l hb (by decide) hk _ w hr
  have lt4 : ∀ k, leVal ((l.drop k).take 4) < 4294967296 := fun k => by
    have := leVal_lt ((hb.drop k).take 4)
    refine Nat.lt_of_lt_of_le this (show _ ≤ 2 ^ 32 from Nat.pow_le_pow_right (by decide) (by rw [List.length_take]; omega))
  have hm1 : 12 ≤ m ∧ m ≤ 60 := by omega
  rw [hm] at hc ⊢
  by_cases hcs : crcOf (l.take m) = leVal (l.drop m)
  case neg =>
    rw [if_pos hcs] at hE
    rw [rdOf_bad (by rw [hE]; decide), hE]
    exact (Runpack_sum ad c m K l hm1 hc RH RS h3 _ _ (crcOf_lt (hb.take m)) GT SM (ne_of hcs) w hr).mono fun _ _ h => RetR.bad h
  rw [if_neg (fun h => h hcs)] at hE
  have hs : ((crcOf (l.take m) : Int) != (leVal (l.drop m) : Int)) = false := eq_of' hcs
  have h2 : ∀ w, SlAt w (some ad) (u8v l) → w.cell? ⟨ad.block, ad.off + 2, none⟩ = some (.int .u8 (S : Int)) := fun w hr => by rw [← add_plain' ad (by decide), hSS]; exact at_ 2 (by omega) w hr
  have hdl : ((l.drop 12).take (stp wide * n)).length = stp wide * n := by rw [List.length_take, hd12]; omega
  have hrr : rdOf l = if unpackE pf l = 0 then ⟨S, leVal ((l.drop 4).take 4), leVal ((l.drop 8).take 4), rdVals pf wide n ((l.drop 12).take (stp wide * n))⟩ else noRd := by unfold rdOf; rw [hrd]
  cases wide
  · have hk : ¬ 128 ≤ K := of_decide_eq_false hw.symm
    exact Runpack_near ad c m K l hm1 hc RH RS h3 _ _ (crcOf_lt (hb.take m)) GT SM S _ _ (by omega) (lt4 4) (lt4 8) (GQ 4 (by omega) (by decide)) (GQ 8 (by omega) (by decide)) h2 n (by omega) hmn (decide_eq_false (by omega)) _ rfl ((hb.drop 12).take _) hdl hb hm _ _ rfl rfl _ hE _ hrr hs w hr
  · have hk : 128 ≤ K := of_decide_eq_true hw.symm
    exact Runpack_wide ad c m K l hm1 hc RH RS h3 _ _ (crcOf_lt (hb.take m)) GT SM S _ _ (by omega) (lt4 4) (lt4 8) (GQ 4 (by omega) (by decide)) (GQ 8 (by omega) (by decide)) h2 n (by omega) hmn (decide_eq_true (by omega)) _ rfl ((hb.drop 12).take _) hdl hb hm _ _ rfl rfl _ hE _ hrr hs w hr
end Go.Proofs.YtpmjlaiafgbjgaaGreatDoor
end

section
namespace Go.Proofs.YtpmjlaiafgbjgaaGreatDoor
open Go.RowKit
def But (bk : Nat) (a w : World) : Prop := a.grownBy w (some bk)
theorem But.refl (bk : Nat) (a : World) : But bk a a := World.grownBy.refl a _
theorem But.trans {bk : Nat} {a b c : World} (h : But bk a b) (k : But bk b c) : But bk a c := World.grownBy.trans h k
theorem But.in_ {bk : Nat} {a b : World} (h : Within a b) : But bk a b := World.grownBy.but (within_grown h) _
theorem But.within {bk : Nat} {a b c : World} (h : But bk a b) (k : Within b c) : But bk a c := h.trans (But.in_ k)
theorem But.set {bk : Nat} {a b : World} (h : But bk a b) {p : Addr} (hp : p.block = bk ∨ a.heap.size ≤ p.block) (u : Value) : But bk a (b.setCell p u) :=
  ⟨h.os, h.tape, h.output, Nat.le_trans h.size (by simp [World.setCell]), fun k hk hne => (Below.heap_setCell _ _ _ _ (by
    intro e; rcases hp with hp | hp
    · exact hne (by rw [e, hp])
    · omega)).trans (h.block k hk hne)⟩
theorem But.alloc {bk : Nat} {a b : World} (h : But bk a b) (o : Obj) : But bk a (b.alloc o) := h.within ((Within.refl b).alloc o)
theorem But.drew {bk : Nat} {a b : World} (h : But bk a b) : But bk a b.drew := h.within ((Within.refl b).drew)
theorem But.grown {bk : Nat} {a b c : World} {row : Option Nat} (h : But bk a b) (k : b.grownBy c row) (hr : ∀ j, row = some j → a.heap.size ≤ j) : But bk a c :=
  World.grownBy.andThen h k fun j hj => .inl (hr j hj)
theorem But.sizes {bk : Nat} {a b : World} (h : But bk a b) : a.heap.size ≤ b.heap.size := h.size
theorem But.cells {bk : Nat} {a b : World} (h : But bk a b) (k o : Nat) (hk : k < a.heap.size) (hne : k ≠ bk) : b.cell? ⟨k, o, none⟩ = a.cell? ⟨k, o, none⟩ :=
  World.cell?_of_block (h.block k hk (fun e => hne (Option.some.inj e)))
theorem But.frozens {bk : Nat} {a b : World} (h : But bk a b) (k o : Nat) (hk : k < a.heap.size) (hne : k ≠ bk) : b.frozen? ⟨k, o, none⟩ = a.frozen? ⟨k, o, none⟩ :=
  World.frozen?_of_block (h.block k hk (fun e => hne (Option.some.inj e)))
theorem But.out {bk : Nat} {a b : World} (h : But bk a b) (hb : a.heap.size ≤ bk) : Within a b := ⟨h.os, h.tape, h.output, h.size, fun k hk => h.block k hk (fun e => by have := Option.some.inj e; omega)⟩
theorem SlAt.but {w w' : World} {bk : Nat} {A : Option Addr} {xs : List Value} (h : SlAt w A xs) (k : But bk w w') (hA : ∀ ad, A = some ad → ad.block ≠ bk) : SlAt w' A xs := fun hn => by
  obtain ⟨ad, e, hb, hc⟩ := h hn
  have key : ∀ j, w'.cell? (ad.add j) = w.cell? (ad.add j) := fun j => World.cell?_of_block (k.block _ (by rw [add_block]; exact hb) (fun e' => hA ad e (by rw [add_block] at e'; exact Option.some.inj e')))
  exact ⟨ad, e, Nat.lt_of_lt_of_le hb k.size, fun j u hu => (key j).trans (hc j u hu)⟩
theorem FmS.but {w w' : World} {bk : Nat} (h : FmS w) (k : But bk w w') (hb : bk ≠ 1) : FmS w' := by
  have h0 := World.block_lt_of_cell? _ _ h.1
  unfold FmS at h ⊢
  simp only [k.cells _ _ h0 (Ne.symm hb)]
  exact h
theorem ownsRow_but {w w' : World} {bk base : Nat} {e : TypeId} {size : Nat} {v : Value} {n : Nat} {xs : List Value} (h : w.ownsRow base e size v n xs) (k : But bk w w') (hb : bk < base) : w'.ownsRow base e size v n xs := by
  refine h.kept k ?_
  cases hv : v.ownBlock with
  | none => exact .inl rfl
  | some j => exact .inr (fun e => by have := (h.lt j hv).1; have := Option.some.inj e; omega)
theorem OwnF.but {w w' : World} {bk base : Nat} {v : Value} {l : List Nat} (h : OwnF w base v l) (k : But bk w w') (hb : bk < base) : OwnF w' base v l := ownsRow_but h k hb
theorem OwnB.but {w w' : World} {bk base : Nat} {v : Value} {l : List Nat} (h : OwnB w base v l) (k : But bk w w') (hb : bk < base) : OwnB w' base v l := ownsRow_but h k hb
/-! slices of readings -/
def rdC (r : Rd) (v : Value) : List Value := [.int .i64 (r.sensor : Int), .int .u32 (r.seq : Int), .int .u32 (r.stamp : Int), v]
def cellsR (ps : List (Rd × Value)) : List Value := ps.flatMap fun p => rdC p.1 p.2
def RdsP (w : World) (base : Nat) (v : Value) (ps : List (Rd × Value)) : Prop :=
  w.ownsRow base 64 4 v ps.length (cellsR ps) ∧ ∀ p ∈ ps, OwnF w base p.2 p.1.vals ∧ (p.2.ownBlock = none ∨ p.2.ownBlock ≠ v.ownBlock)
def RdsO (w : World) (base : Nat) (v : Value) (rs : List Rd) : Prop := ∃ ps, ps.map Prod.fst = rs ∧ RdsP w base v ps
theorem RdsO.nil_ (w : World) (base : Nat) : RdsO w base (.slice none 0 0) [] := ⟨[], rfl, World.ownsRow_nil _ _ _ _, fun p hp => by cases hp⟩
theorem RdsP.but {w w' : World} {bk base : Nat} {v : Value} {ps : List (Rd × Value)} (h : RdsP w base v ps) (k : But bk w w') (hb : bk < base) : RdsP w' base v ps :=
  ⟨ownsRow_but h.1 k hb, fun p hp => ⟨(h.2 p hp).1.but k hb, (h.2 p hp).2⟩⟩
theorem RdsO.but {w w' : World} {bk base : Nat} {v : Value} {rs : List Rd} (h : RdsO w base v rs) (k : But bk w w') (hb : bk < base) : RdsO w' base v rs := by
  obtain ⟨ps, h1, h2⟩ := h; exact ⟨ps, h1, h2.but k hb⟩
theorem RdsO.of {w w' : World} {base : Nat} {v : Value} {rs : List Rd} (h : RdsO w base v rs) (k : Within w w') : RdsO w' base v rs := by
  obtain ⟨ps, h1, h2, h3⟩ := h
  exact ⟨ps, h1, h2.kept (within_grown k) (by cases hv : v.ownBlock <;> simp), fun p hp => ⟨(h3 p hp).1.of k, (h3 p hp).2⟩⟩
theorem RdsO.less {w : World} {base base' : Nat} {v : Value} {rs : List Rd} (h : RdsO w base v rs) (k : base' ≤ base) : RdsO w base' v rs := by
  obtain ⟨ps, h1, h2, h3⟩ := h
  refine ⟨ps, h1, ⟨h2.1, ?_⟩, fun p hp => ⟨(h3 p hp).1.less k, (h3 p hp).2⟩⟩
  rcases h2.2 with h | ⟨g, cap, cur, h1, hb, h3⟩
  · exact .inl h
  · exact .inr ⟨g, cap, cur, h1, Nat.le_trans k hb, h3⟩
theorem RdsO.form {w : World} {base : Nat} {v : Value} {rs : List Rd} (h : RdsO w base v rs) : ∃ A c, v = .slice A rs.length c ∧ rs.length ≤ c ∧ (∀ ad, A = some ad → base ≤ ad.block) := by
  obtain ⟨ps, rfl, h2, _⟩ := h
  rcases h2.2 with ⟨rfl, h0⟩ | ⟨g, cap, cur, rfl, hg, _, hc, _⟩
  · refine ⟨none, 0, ?_, ?_, fun ad e => by cases e⟩
    · rw [List.length_map, h0]
    · rw [List.length_map]; omega
  · refine ⟨_, _, by rw [List.length_map], by rw [List.length_map]; exact hc, fun ad e => by injection e with e; subst e; exact hg⟩
theorem Tryz.infoRd : (Tryz.prog.info? 64).map (fun i => (i.zero, i.size, i.bytes)) = some (some (.agg #[.int .i64 0, .int .u32 0, .int .u32 0, .slice none 0 0]), 4, 40) := by kernel_rfl
theorem rdC_one (r : Rd) {v : Value} (hv : v.oneCell' = true) : ∀ u ∈ rdC r v, u.oneCell' = true := by
  intro u hu
  unfold rdC at hu
  simp only [List.mem_cons, List.not_mem_nil, or_false] at hu
  rcases hu with rfl | rfl | rfl | rfl
  · rfl
  · rfl
  · rfl
  · exact hv
theorem run_app_rd (w : World) (base : Nat) (v : Value) (rs : List Rd) (r : Rd) (u : Value) (hown : RdsO w base v rs) (hu : OwnF w base u r.vals) (hne : u.ownBlock = none ∨ u.ownBlock ≠ v.ownBlock) (hl : (rs.length + 1) * 40 ≤ 140737488355328) (hbase : base ≤ w.heap.size) :
    ∃ v' w', (Builtin.append_ #[59, 59] 59 #[v, .slice (some ⟨w.heap.size, 0, none⟩) 1 1]).run Tryz.prog (w.alloc (.cells #[.int .i64 (r.sensor : Int), .int .u32 (r.seq : Int), .int .u32 (r.stamp : Int), u] 64)) = .ok v' w' ∧ RdsO w' base v' (rs ++ [r]) ∧ w.grownBy w' v.ownBlock ∧ (∀ j, v.ownBlock = some j → base ≤ j) := by
  obtain ⟨ps, rfl, hrow, hps⟩ := hown
  obtain ⟨i0, hi0, hz0, hz1, hz2⟩ := info_parts Tryz.infoRd
  have hin := (Within.refl w).alloc (.cells #[.int .i64 (r.sensor : Int), .int .u32 (r.seq : Int), .int .u32 (r.stamp : Int), u] 64)
  have hu1 : u.oneCell' = true := by obtain ⟨A, c, rfl, _⟩ := hu.form; rfl
  have hrow' := hrow.kept (within_grown hin) (by cases hv : v.ownBlock <;> simp)
  have hcell : ∀ (j : Nat) x, (rdC r u)[j]? = some x → (w.alloc (.cells #[.int .i64 (r.sensor : Int), .int .u32 (r.seq : Int), .int .u32 (r.stamp : Int), u] 64)).cell? ((⟨w.heap.size, 0, none⟩ : Addr).add j) = some x := fun j x hx => by
    have e : (⟨w.heap.size, 0, none⟩ : Addr).add j = ⟨w.heap.size, j, none⟩ := by
      unfold Addr.add; split
      · rename_i h; rw [h]
      · rw [Nat.zero_add]
    rw [e, World.cell?_alloc_at _ _ _ _ rfl]
    unfold rdC at hx
    match j, hx with
    | 0, hx => exact hx
    | 1, hx => exact hx
    | 2, hx => exact hx
    | 3, hx => exact hx
    | j + 4, hx => simp at hx
  obtain ⟨v', w', h1, h2, h3, _, h5⟩ := run_append_own_at (P := Tryz.prog) (w := w.alloc (.cells #[.int .i64 (r.sensor : Int), .int .u32 (r.seq : Int), .int .u32 (r.stamp : Int), u] 64)) base 59 59 64 i0 (.agg #[.int .i64 0, .int .u32 0, .int .u32 0, .slice none 0 0]) 4 40 (by kernel_rfl) hi0 hz0 hz1 hz2 rfl (by decide) v ps.length (cellsR ps) hrow' ⟨w.heap.size, 0, none⟩ 1 1 (rdC r u) rfl hcell (rdC_one r hu1)
    (by rw [List.length_map] at hl; unfold maxLen; omega) (by rw [List.length_map] at hl; omega) (by simp; omega)
  have hlt := fun j hj => (hrow.lt j hj)
  refine ⟨v', w', h1, ⟨ps ++ [(r, u)], by rw [List.map_append]; rfl, ?_, ?_⟩, ?_, fun j hj => (hlt j hj).1⟩
  · have e : cellsR (ps ++ [(r, u)]) = cellsR ps ++ rdC r u := by unfold cellsR; rw [List.flatMap_append]; simp
    rw [List.length_append, e]; exact h2
  · have key : ∀ x xs, OwnF w base x xs → (x.ownBlock = none ∨ x.ownBlock ≠ v.ownBlock) → OwnF w' base x xs ∧ (x.ownBlock = none ∨ x.ownBlock ≠ v'.ownBlock) := fun x xs h hn => by
      refine ⟨(h.of hin).kept h3 hn, ?_⟩
      rcases hn with hn | hn
      · exact .inl hn
      · rcases h5 with h5 | h5
        · exact .inr (by rw [h5]; exact hn)
        · cases hx : x.ownBlock with
          | none => exact .inl rfl
          | some j =>
            refine .inr (fun e => ?_)
            rw [h5] at e
            have := (h.lt j hx).2
            have := Option.some.inj e
            simp at this
            omega
    intro p hp
    rcases List.mem_append.1 hp with h | h
    · exact key _ _ (hps p h).1 (hps p h).2
    · rw [List.mem_singleton] at h; rw [h]; exact key _ _ hu hne
  · exact ⟨h3.os, h3.tape, h3.output, Nat.le_trans (by simp) h3.size, fun k hk hn => (h3.block k (by simp; omega) hn).trans (Below.heap_alloc _ _ _ hk)⟩
end Go.Proofs.YtpmjlaiafgbjgaaGreatDoor
end

section
namespace Go.Proofs.YtpmjlaiafgbjgaaGreatDoor
open Go.RowKit
def strB (l : List Nat) : ByteArray := strOfNums (l.map fun (x : Nat) => (x : Int))
theorem run_str (A : Option Addr) (c : Nat) (l : List Nat) (w : World) (hr : SlAt w A (u8v l)) : (convert 28 9 (.slice A l.length c)).run Tryz.prog w = .ok (.string (strB l)) w := by
  rw [run_convert_bytes_string (P := Tryz.prog) w 28 9 5 A l.length c (by kernel_rfl) (by kernel_rfl) (by kernel_rfl)]
  have e : (l.map fun (x : Nat) => (x : Int)).map (Value.int .u8) = u8v l := by unfold u8v; rw [List.map_map]; rfl
  have fin : (Builtin.append_ #[] 0 #[]) = (Builtin.append_ #[] 0 #[]) := rfl
  cases A with
  | none =>
    have h0 : l = [] := by
      cases l with
      | nil => rfl
      | cons x l => obtain ⟨ad, h, _⟩ := hr (by simp [u8v]); cases h
    subst h0
    simp [Conv.bytesToString]
    rfl
  | some ad =>
    have hl : (loadCells ad l.length).run Tryz.prog w = .ok ((l.map fun (x : Nat) => (x : Int)).map (Value.int .u8)).toArray w := by
      have := run_loadCells_list (P := Tryz.prog) w ad (u8v l) (fun j v hj => by
        obtain ⟨ad', e', _, hc⟩ := hr (by cases hu : u8v l with | nil => rw [hu] at hj; simp at hj | cons _ _ => simp)
        obtain rfl := Option.some.inj e'
        exact hc j v hj)
      rw [u8v_len] at this
      rw [e]; exact this
    rw [run_bytesToString w _ l.length c _ hl, foldl_push_bytes]
    simp [strB, strOfNums, ByteArray.empty, ByteArray.emptyWithCapacity]
    rfl
theorem strB_inj {l m : List Nat} (hl : Bytes l) (hm : Bytes m) (h : (strB l).toList = (strB m).toList) : l = m := by
  have h1 : (strB l).data.toList = (strB m).data.toList := by rw [ByteArray.toList_eq, ByteArray.toList_eq] at h; exact h
  unfold strB at h1
  rw [strOfNums_data, strOfNums_data, List.map_map, List.map_map] at h1
  clear h
  induction l generalizing m with
  | nil => cases m with
    | nil => rfl
    | cons y m => simp at h1
  | cons x l ih => cases m with
    | nil => simp at h1
    | cons y m =>
      simp only [List.map_cons, List.cons.injEq, Function.comp] at h1
      have hx := hl x (by simp)
      have hy := hm y (by simp)
      have e : x = y := by
        have := congrArg UInt8.toNat h1.1
        simp at this
        omega
      rw [e, ih (fun z hz => hl z (by simp [hz])) (fun z hz => hm z (by simp [hz])) h1.2]
def sameB (s q t s' q' t' : Int) (l m : List Nat) : Bool := (s == s') && (q == q') && (t == t') && decide (l.map canonD = m.map canonD)
set_option maxRecDepth 100000 in
set_option maxHeartbeats 600000 in
theorem Rsame_any (s q t s' q' t' : Int) (A B : Option Addr) (c d : Nat) (l m : List Nat) (hl : l.length ≤ 1152921504606846976) (hm : m.length ≤ 1152921504606846976) (w : World) (h1 : SlAt w A (f64v l)) (h2 : SlAt w B (f64v m)) : Calls Tryz.prog 47 #[.agg #[.int .i64 s, .int .u32 q, .int .u32 t, .slice A l.length c], .agg #[.int .i64 s', .int .u32 q', .int .u32 t', .slice B m.length d]] w fun e w' => e = .returned (.bool (sameB s q t s' q' t' l m)) ∧ Within w w' := by
  have SL : Hid (∀ wx, Within w wx → Calls Tryz.prog 72 #[.slice A l.length c, .slice B m.length d] wx fun e w' => e = .returned (.bool (decide (l.map canonD = m.map canonD))) ∧ Within wx w') := Lib.hid fun wx hx => Rsamelist_any A B c d l m hl hm wx (h1.of hx) (h2.of hx)
  clear h1 h2 hl hm
  obtain ⟨x, hx⟩ : ∃ x, x = decide (l.map canonD = m.map canonD) := ⟨_, rfl⟩
  rw [← hx] at SL
  unfold sameB
  rw [← hx]
  clear hx
  generalize l.length = n1 at SL ⊢
  generalize m.length = n2 at SL ⊢
  cases e1 : (s == s') <;> cases e2 : (q == q') <;> cases e3 : (t == t')
  all_goals
    go_enter Tryz.func47, Tryz.ntmps47
    go_wp2_with fail
    first
    | (refine (SL.out _ (by repeat (first | with_reducible exact Within.refl _ | with_reducible assumption | with_reducible refine Within.alloc ?_ _ | with_reducible refine Within.drew ?_ | with_reducible refine Within.drewN ?_ _ | with_reducible refine Within.setCell ?_ (by first | (simp; done) | (simp; omega)) _ | with_reducible refine Within.trans ?_ (by assumption)))).mono ?_; rintro e5 w5 ⟨rfl, h5⟩; go_wp2; go_ret; exact ⟨rfl, Within.trans (Within.alloc (Within.alloc (Within.refl _) _) _) h5⟩)
    | (go_ret; exact ⟨rfl, Within.alloc (Within.alloc (Within.refl _) _) _⟩)
theorem SlAt.made (w : World) (xs : List Value) (E : TypeId) : SlAt (w.alloc (.cells xs.toArray E)) (some ⟨w.heap.size, 0, none⟩) xs := fun _ => by
  refine ⟨_, rfl, by simp, fun j v hv => ?_⟩
  have e : (⟨w.heap.size, 0, none⟩ : Addr).add j = ⟨w.heap.size, j, none⟩ := by
    unfold Addr.add; split
    · rename_i h; rw [h]
    · rw [Nat.zero_add]
  rw [e, World.cell?_alloc_at _ _ _ _ rfl]
  simpa using hv
theorem SlAt.made_mark (w : World) (xs : List Value) (E : TypeId) (fr : Nat × Nat) : SlAt (w.alloc (.cells xs.toArray E fr)) (some ⟨w.heap.size, 0, none⟩) xs := fun _ => by
  refine ⟨_, rfl, by simp, fun j v hv => ?_⟩
  have e : (⟨w.heap.size, 0, none⟩ : Addr).add j = ⟨w.heap.size, j, none⟩ := by
    unfold Addr.add; split
    · rename_i h; rw [h]
    · rw [Nat.zero_add]
  rw [e, World.cell?_alloc_mark]
  simpa using hv
theorem Rsame_self (s q t : Int) (A B : Option Addr) (c d : Nat) (l : List Nat) (hl : l.length ≤ 1152921504606846976) (w : World) (h1 : SlAt w A (f64v l)) (h2 : SlAt w B (f64v l)) : Calls Tryz.prog 47 #[.agg #[.int .i64 s, .int .u32 q, .int .u32 t, .slice A l.length c], .agg #[.int .i64 s, .int .u32 q, .int .u32 t, .slice B l.length d]] w fun e w' => e = .returned (.bool true) ∧ Within w w' := by
  have h := Rsame_any s q t s q t A B c d l l hl hl w h1 h2
  have e : sameB s q t s q t l l = true := by unfold sameB; simp
  rw [e] at h; exact h
def RowB (w : World) (g : Nat) (l : List Nat) : Prop := (∀ i, i < l.length → w.cell? ⟨g, i, none⟩ = some (.int .u8 ((l.getD i 0 : Nat) : Int))) ∧ ∀ o, w.frozen? ⟨g, o, none⟩ = false
theorem add_at (g k : Nat) : (⟨g, 0, none⟩ : Addr).add k = ⟨g, k, none⟩ := by
  unfold Addr.add; split
  · rename_i h; rw [h]
  · rw [Nat.zero_add]
theorem OwnB.row {w : World} {base : Nat} {v : Value} {l : List Nat} (h : OwnB w base v l) (hn : 0 < l.length) : ∃ g c, v = .slice (some ⟨g, 0, none⟩) l.length c ∧ l.length ≤ c ∧ base ≤ g ∧ g < w.heap.size ∧ RowB w g l := by
  rcases h.2 with ⟨_, h0⟩ | ⟨g, cap, cur, hv, hg, hb, hc, _, _, _⟩
  · omega
  · obtain ⟨hlt, _⟩ := Array.getElem?_eq_some_iff.1 hb
    refine ⟨g, cap, hv, hc, hg, hlt, fun i hi => ?_, fun o => by simp [World.frozen?, hb]⟩
    have := World.ownsRow.cells (g := g) h (by rw [hv]; rfl) i (.int .u8 ((l.getD i 0 : Nat) : Int)) (by
      unfold u8v; rw [List.getElem?_map, List.getElem?_eq_getElem hi, Option.map_some]; simp [List.getD, List.getElem?_eq_getElem hi])
    rwa [add_at] at this
theorem RowB.at {w : World} {g : Nat} {l : List Nat} (h : RowB w g l) (hg : g < w.heap.size) : SlAt w (some ⟨g, 0, none⟩) (u8v l) := fun _ => by
  refine ⟨_, rfl, hg, fun j u hu => ?_⟩
  unfold u8v at hu
  rw [List.getElem?_map, Option.map_eq_some_iff] at hu
  obtain ⟨x, hx, rfl⟩ := hu
  obtain ⟨hj, hx⟩ := List.getElem?_eq_some_iff.1 hx
  rw [add_at, h.1 j hj]
  simp [List.getD, List.getElem?_eq_getElem hj, hx]
theorem getD_set_same (l : List Nat) (i x : Nat) (h : i < l.length) : (l.set i x).getD i 0 = x := by simp [List.getD, h]
theorem getD_set_else (l : List Nat) (i j x : Nat) (h : i ≠ j) : (l.set i x).getD j 0 = l.getD j 0 := by simp [List.getD, List.getElem?_set_ne h]
theorem RowB.set {w : World} {g : Nat} {l : List Nat} (h : RowB w g l) (i x : Nat) (hi : i < l.length) : RowB (w.setCell ⟨g, i, none⟩ (.int .u8 (x : Int))) g (l.set i x) := by
  refine ⟨fun j hj => ?_, fun o => by simpa using h.2 o⟩
  rw [List.length_set] at hj
  by_cases e : i = j
  · subst e
    rw [getD_set_same _ _ _ hi, World.cell?_setCell_same _ _ _ (h.1 i hi)]
  · rw [getD_set_else _ _ _ _ e, World.cell?_setCell_other _ _ _ _ (by intro k; injection k with _ k _; exact e k)]
    exact h.1 j hj
theorem RowB.of {w w' : World} {g : Nat} {l : List Nat} (h : RowB w g l) (k : Within w w') (hg : g < w.heap.size) : RowB w' g l :=
  ⟨fun i hi => (k.cells g i hg).trans (h.1 i hi), fun o => (k.frozens g o hg).trans (h.2 o)⟩
def RdsAt (w : World) (A : Option Addr) (rs : List Rd) : Prop := ∀ (i : Nat) r, rs[i]? = some r → ∃ g Av cv, A = some ⟨g, 0, none⟩ ∧ g < w.heap.size ∧ w.cell? ⟨g, 4 * i, none⟩ = some (.int .i64 (r.sensor : Int)) ∧ w.cell? ⟨g, 4 * i + 1, none⟩ = some (.int .u32 (r.seq : Int)) ∧ w.cell? ⟨g, 4 * i + 2, none⟩ = some (.int .u32 (r.stamp : Int)) ∧ w.cell? ⟨g, 4 * i + 3, none⟩ = some (.slice Av r.vals.length cv) ∧ SlAt w Av (f64v r.vals)
theorem RdsAt.of {w w' : World} {A : Option Addr} {rs : List Rd} (h : RdsAt w A rs) (k : Within w w') : RdsAt w' A rs := fun i r hi => by
  obtain ⟨g, Av, cv, h1, h2, h3, h4, h5, h6, h7⟩ := h i r hi
  have key : ∀ j, w'.cell? ⟨g, j, none⟩ = w.cell? ⟨g, j, none⟩ := fun j => k.cells _ _ h2
  exact ⟨g, Av, cv, h1, Nat.lt_of_lt_of_le h2 k.size, (key _).trans h3, (key _).trans h4, (key _).trans h5, (key _).trans h6, h7.of k⟩
theorem cellsR_get : ∀ (ps : List (Rd × Value)) (i : Nat) (p : Rd × Value), ps[i]? = some p → ∀ j u, (rdC p.1 p.2)[j]? = some u → (cellsR ps)[4 * i + j]? = some u
  | [], i, p, h, _, _, _ => by simp at h
  | q :: ps, 0, p, h, j, u, hu => by
    simp at h; subst h
    have hj : j < 4 := by
      obtain ⟨hj, _⟩ := List.getElem?_eq_some_iff.1 hu
      exact hj
    rw [cellsR, List.flatMap_cons, List.getElem?_append_left (by show _ < 4; omega), Nat.mul_zero, Nat.zero_add]
    exact hu
  | q :: ps, i + 1, p, h, j, u, hu => by
    simp at h
    rw [cellsR, List.flatMap_cons, List.getElem?_append_right (by show 4 ≤ _; omega), show 4 * (i + 1) + j - (rdC q.1 q.2).length = 4 * i + j by show 4 * (i + 1) + j - 4 = _; omega]
    exact cellsR_get ps i p h j u hu
theorem RdsO.at {w : World} {base : Nat} {v : Value} {rs : List Rd} (h : RdsO w base v rs) : ∃ A c, v = .slice A rs.length c ∧ rs.length ≤ c ∧ RdsAt w A rs ∧ ∀ ad, A = some ad → base ≤ ad.block := by
  obtain ⟨ps, rfl, hrow, hps⟩ := h
  rcases hrow.2 with ⟨rfl, h0⟩ | ⟨g, cap, cur, rfl, hg, hb, hc, _, _, _⟩
  · have : ps = [] := List.eq_nil_of_length_eq_zero h0
    subst this
    exact ⟨none, 0, rfl, Nat.le_refl _, fun i r hi => by simp at hi, fun ad e => by cases e⟩
  · obtain ⟨hlt, _⟩ := Array.getElem?_eq_some_iff.1 hb
    refine ⟨some ⟨g, 0, none⟩, cap, by rw [List.length_map], by rw [List.length_map]; exact hc, fun i r hi => ?_, fun ad e => by injection e with e; subst e; exact hg⟩
    rw [List.getElem?_map, Option.map_eq_some_iff] at hi
    obtain ⟨p, hp, rfl⟩ := hi
    obtain ⟨Av, cv, hv, _, hs, _⟩ := (hps p (List.mem_of_getElem? hp)).1.form
    have key : ∀ j u, (rdC p.1 p.2)[j]? = some u → w.cell? ⟨g, 4 * i + j, none⟩ = some u := fun j u hu => by rw [← add_at]; exact World.ownsRow.cells (g := g) hrow rfl _ _ (cellsR_get ps i p hp j u hu)
    refine ⟨g, Av, cv, rfl, hlt, key 0 _ rfl, key 1 _ rfl, key 2 _ rfl, ?_, hs⟩
    rw [key 3 _ rfl, hv]
theorem Within.aside {a b c : World} {bk : Nat} (k : Within a b) (h : But bk b c) (hb : a.heap.size ≤ bk) : Within a c := ((But.in_ k).trans h).out hb
set_option maxRecDepth 100000 in
set_option maxHeartbeats 1000000 in
theorem Rsameall_any (A B : Option Addr) (c d : Nat) (rs : List Rd) (hl : rs.length ≤ 1152921504606846976) (hv : ∀ r ∈ rs, r.vals.length ≤ 6) (w : World) (h1 : RdsAt w A rs) (h2 : RdsAt w B rs) : Calls Tryz.prog 24 #[.slice A rs.length c, .slice B rs.length d] w fun e w' => e = .returned (.bool true) ∧ Within w w' := by
  have H1 := Lib.hid h1; have H2 := Lib.hid h2; have HV := Lib.hid hv; clear h1 h2 hv
  go_enter Tryz.func24, Tryz.ntmps24
  go_wp2
  go_loopw [13] (fun iv wr => ∃ i : Nat, i ≤ rs.length ∧ iv = .int .i64 (i : Int) ∧ Within w wr) (fun iv _ => rs.length - (intOf iv).toNat)
  case atStart => exact ⟨0, Nat.zero_le _, rfl, Within.refl _⟩
  case round =>
    obtain ⟨i, hi, rfl, hin⟩ := hrel
    by_cases hlt : i < rs.length
    · have hget : rs[i]? = some rs[i] := List.getElem?_eq_getElem hlt
      obtain ⟨r, hr⟩ : ∃ r, r = rs[i] := ⟨_, rfl⟩
      rw [← hr] at hget
      have hrv := HV.out r (by rw [hr]; exact List.getElem_mem hlt)
      obtain ⟨g1, Av, cv, rfl, l1, x0, x1, x2, x3, hs1⟩ := (H1.out.of hin) i r hget
      obtain ⟨g2, Bv, dv, rfl, l2, y0, y1, y2, y3, hs2⟩ := (H2.out.of hin) i r hget
      have SM := Lib.hid (fun (W : World) (h1 : SlAt W Av (f64v r.vals)) (h2 : SlAt W Bv (f64v r.vals)) => Rsame_self (r.sensor : Int) (r.seq : Int) (r.stamp : Int) Av Bv cv dv r.vals (by omega) W h1 h2)
      have HS1 := Lib.hid hs1; have HS2 := Lib.hid hs2; have HIN := Lib.hid hin; clear hs1 hs2 hin hr hget
      rw [Nat.mul_comm 4 i] at x0 x1 x2 x3 y0 y1 y2 y3
      have b1 : (i : Int) < (rs.length : Int) := by omega
      go_wp2_with fail
      refine wp_region_schG (fun W => W.cell? ⟨g1, i * 4, none⟩ = some (.int .i64 (r.sensor : Int)) ∧ W.cell? ⟨g1, i * 4 + 1, none⟩ = some (.int .u32 (r.seq : Int)) ∧ W.cell? ⟨g1, i * 4 + 2, none⟩ = some (.int .u32 (r.stamp : Int)) ∧ W.cell? ⟨g1, i * 4 + 3, none⟩ = some (.slice Av r.vals.length cv) ∧ W.cell? ⟨g2, i * 4, none⟩ = some (.int .i64 (r.sensor : Int)) ∧ W.cell? ⟨g2, i * 4 + 1, none⟩ = some (.int .u32 (r.seq : Int)) ∧ W.cell? ⟨g2, i * 4 + 2, none⟩ = some (.int .u32 (r.stamp : Int)) ∧ W.cell? ⟨g2, i * 4 + 3, none⟩ = some (.slice Bv r.vals.length dv) ∧ g1 < W.heap.size ∧ g2 < W.heap.size ∧ SlAt W Av (f64v r.vals) ∧ SlAt W Bv (f64v r.vals) ∧ Within w W) 9 (.firm 0 (.firm 1 (.firm 2 (.firm 3 (.firm 4 (.firm 5 (.firm 6 (.firm 7 (.one 8 (.one 9 .nil)))))))))) (by kernel_rfl) (by kernel_rfl) ⟨x0, x1, x2, x3, y0, y1, y2, y3, l1, l2, HS1.out, HS2.out, HIN.out⟩ ?_
      rintro w0 ⟨k0, k1, k2, k3, m0, m1, m2, m3, lg1, lg2, hsa0, hsb0, hw0⟩
      try simp only [Act.put, List.setIfInBounds_toArray, List.set_cons_zero, List.set_cons_succ]
      iterate 8
        apply sch_firm rfl rfl (by repeat (first | with_reducible exact Within.refl _ | with_reducible assumption | with_reducible refine Within.alloc ?_ _ | with_reducible refine Within.drew ?_ | with_reducible refine Within.drewN ?_ _ | with_reducible refine Within.setCell ?_ (by first | (simp; done) | (simp; omega)) _ | with_reducible refine Within.trans ?_ (by assumption)))
        · intro wq hq
          have hcq := hq.cells
          clear hq
          go_simp
          rfl
        try simp only [Act.put, List.setIfInBounds_toArray, List.set_cons_zero, List.set_cons_succ]
      refine sch_one rfl rfl (fun K hK => ?_)
      go_simp
      refine (SM.out _ (by exact hsa0.of (by repeat (first | with_reducible exact Within.refl _ | with_reducible assumption | with_reducible refine Within.alloc ?_ _ | with_reducible refine Within.drew ?_ | with_reducible refine Within.drewN ?_ _ | with_reducible refine Within.setCell ?_ (by first | (simp; done) | (simp; omega)) _ | with_reducible refine Within.trans ?_ (by assumption)))) (by exact hsb0.of (by repeat (first | with_reducible exact Within.refl _ | with_reducible assumption | with_reducible refine Within.alloc ?_ _ | with_reducible refine Within.drew ?_ | with_reducible refine Within.drewN ?_ _ | with_reducible refine Within.setCell ?_ (by first | (simp; done) | (simp; omega)) _ | with_reducible refine Within.trans ?_ (by assumption))))).mono ?_; rintro e4 w4 ⟨rfl, h4⟩
      refine hK _ _ (fun _ => (by repeat (first | with_reducible exact Within.refl _ | with_reducible assumption | with_reducible refine Within.alloc ?_ _ | with_reducible refine Within.drew ?_ | with_reducible refine Within.drewN ?_ _ | with_reducible refine Within.setCell ?_ (by first | (simp; done) | (simp; omega)) _ | with_reducible refine Within.trans ?_ (by assumption)))) ?_
      clear hK K
      try simp only [Act.put, List.setIfInBounds_toArray, List.set_cons_zero, List.set_cons_succ]
      refine sch_one rfl rfl (fun K hK => ?_)
      go_simp
      refine hK _ _ (fun h => absurd h (by decide)) ?_
      clear hK K
      try simp only [Act.put, List.setIfInBounds_toArray, List.set_cons_zero, List.set_cons_succ]
      refine sch_nil ?_
      have hw4 : Within w w4 := (by repeat (first | with_reducible exact Within.refl _ | with_reducible assumption | with_reducible refine Within.alloc ?_ _ | with_reducible refine Within.drew ?_ | with_reducible refine Within.drewN ?_ _ | with_reducible refine Within.setCell ?_ (by first | (simp; done) | (simp; omega)) _ | with_reducible refine Within.trans ?_ (by assumption)))
      clear h4 hw0
      go_wp2
      go_roundw
      case rel => exact ⟨i + 1, hlt, by go_num, hw4⟩
      case measure => simp [intOf]; omega
    · obtain rfl : i = rs.length := by omega
      go_wp2
      go_ret
      exact ⟨rfl, hin⟩
end Go.Proofs.YtpmjlaiafgbjgaaGreatDoor
end

section
namespace Go.Proofs.YtpmjlaiafgbjgaaGreatDoor
structure Rec where
  kind : Nat
  data : List Nat
variable (F : Fl)
def checkR (k : Int) (d : List Nat) : Int :=
  if k < 1 ∨ 3 < k then 220 else if 1048576 < d.length then 2 else if k = 1 then (if unpackE F d = 0 then 0 else 220) else if k = 3 then (if d.all (fun c => decide (32 ≤ c ∧ c ≤ 126)) then 0 else 220) else 0
def magicV : List Nat := [66, 73, 78, 76, 79, 71, 49, 10]
def linkV (last : Nat) (b : List Nat) : Nat := crcOf (leBytes 4 last ++ b)
def startV : Nat := crcOf magicV
def layA (r : Rec) (n : Nat) : List Nat := [r.kind] ++ leBytes 4 n ++ leBytes 4 r.data.length
def layB (r : Rec) (n last : Nat) : List Nat := layA r n ++ leBytes 4 (linkV last (layA r n)) ++ r.data
def nextV (r : Rec) (n last : Nat) : Nat := linkV last (layB r n last)
def layV (r : Rec) (n last : Nat) : List Nat := layB r n last ++ leBytes 4 (nextV r n last)
def laidV : List Rec → Nat → Nat → List Nat
  | [], _, _ => []
  | r :: l, n, last => layV r n last ++ laidV l (n + 1) (nextV r n last)
def lastV : List Rec → Nat → Nat → Nat
  | [], _, last => last
  | r :: l, n, last => lastV l (n + 1) (nextV r n last)
def logV (l : List Rec) : List Nat := magicV ++ laidV l 0 startV
def at4 (b : List Nat) (i : Nat) : Nat := leVal ((b.drop i).take 4)
def endV (b : List Nat) : Nat := 13 + at4 b 5
def recV (b : List Nat) : Rec := ⟨b.getD 0 0, (b.drop 13).take (at4 b 5)⟩
def whyV (b : List Nat) (n last : Nat) : Nat :=
  if b.length < 13 then 2
  else if at4 b 9 ≠ linkV last (b.take 9) then 4
  else if b.getD 0 0 < 1 ∨ 3 < b.getD 0 0 ∨ at4 b 1 ≠ n ∨ 1048576 < at4 b 5 ∨ 1048576 ≤ n then 3
  else if b.length < endV b + 4 then 2
  else if at4 b (endV b) ≠ linkV last (b.take (endV b)) then 4
  else if checkR F (b.getD 0 0) ((b.drop 13).take (at4 b 5)) ≠ 0 then 3
  else 0
def readV (b : List Nat) (n last : Nat) : List Rec × Nat × Nat × Nat :=
  match b with
  | [] => ([], 0, 0, last)
  | c :: t =>
    if whyV F (c :: t) n last ≠ 0 then ([], whyV F (c :: t) n last, 0, last)
    else let x := readV ((c :: t).drop (endV (c :: t) + 4)) (n + 1) (linkV last ((c :: t).take (endV (c :: t)))); (recV (c :: t) :: x.1, x.2.1, x.2.2.1 + (endV (c :: t) + 4), x.2.2.2)
termination_by b.length
decreasing_by
  simp only [List.length_drop, List.length_cons]; omega
variable {F}
theorem readV_nil (n last : Nat) : readV F [] n last = ([], 0, 0, last) := by rw [readV]
theorem readV_why {b : List Nat} {n last : Nat} (h0 : b ≠ []) (h : whyV F b n last ≠ 0) : readV F b n last = ([], whyV F b n last, 0, last) := by
  cases b with
  | nil => exact absurd rfl h0
  | cons c t => rw [readV, if_pos h]
theorem whyV_nil (n last : Nat) : whyV F [] n last = 2 := by unfold whyV; rw [if_pos (by decide)]
theorem readV_rec {b : List Nat} {n last : Nat} (h : whyV F b n last = 0) : readV F b n last =
    (recV b :: (readV F (b.drop (endV b + 4)) (n + 1) (linkV last (b.take (endV b)))).1, (readV F (b.drop (endV b + 4)) (n + 1) (linkV last (b.take (endV b)))).2.1, (readV F (b.drop (endV b + 4)) (n + 1) (linkV last (b.take (endV b)))).2.2.1 + (endV b + 4), (readV F (b.drop (endV b + 4)) (n + 1) (linkV last (b.take (endV b)))).2.2.2) := by
  cases b with
  | nil => rw [whyV_nil] at h; cases h
  | cons c t => rw [readV, if_neg (by rw [h]; decide)]
structure Rec.Ok (F : Fl) (r : Rec) : Prop where
  ok : checkR F r.kind r.data = 0
  bytes : Bytes r.data
theorem Rec.Ok.parts {r : Rec} (h : r.Ok F) : 1 ≤ r.kind ∧ r.kind ≤ 3 ∧ r.data.length ≤ 1048576 := by
  have := h.ok
  unfold checkR at this
  by_cases h1 : ((r.kind : Int) < 1 ∨ 3 < (r.kind : Int))
  · rw [if_pos h1] at this; cases this
  rw [if_neg h1] at this
  by_cases h2 : 1048576 < r.data.length
  · rw [if_pos h2] at this; cases this
  omega
theorem layA_len (r : Rec) (n : Nat) : (layA r n).length = 9 := by unfold layA; simp only [List.length_append, leBytes_len, List.length_cons, List.length_nil]
theorem layB_len (r : Rec) (n last : Nat) : (layB r n last).length = 13 + r.data.length := by unfold layB; simp only [List.length_append, leBytes_len, layA_len]
theorem layV_len (r : Rec) (n last : Nat) : (layV r n last).length = 13 + r.data.length + 4 := by unfold layV; rw [List.length_append, leBytes_len, layB_len]
theorem layA_bytes {r : Rec} (h : r.Ok F) (n : Nat) : Bytes (layA r n) := by
  have := h.parts
  unfold layA
  refine Bytes.append (Bytes.append ?_ (leBytes_bytes _ _)) (leBytes_bytes _ _)
  intro c hc
  rw [List.mem_singleton] at hc
  omega
theorem layB_bytes {r : Rec} (h : r.Ok F) (n last : Nat) : Bytes (layB r n last) := by
  unfold layB
  exact Bytes.append (Bytes.append (layA_bytes h n) (leBytes_bytes _ _)) h.bytes
theorem layV_bytes {r : Rec} (h : r.Ok F) (n last : Nat) : Bytes (layV r n last) := (layB_bytes h n last).append (leBytes_bytes _ _)
theorem linkV_lt {last : Nat} {b : List Nat} (h : Bytes b) : linkV last b < 4294967296 := crcOf_lt ((leBytes_bytes _ _).append h)
theorem take_app {x y : List Nat} {k : Nat} (h : x.length = k) : (x ++ y).take k = x := by
  rw [List.take_append_of_le_length (by omega), List.take_of_length_le (by omega)]
theorem drop_app {x y : List Nat} {k : Nat} (h : x.length = k) : (x ++ y).drop k = y := by
  rw [List.drop_append_of_le_length (by omega), List.drop_of_length_le (by omega), List.nil_append]
theorem at4_of {x y : List Nat} {i v : Nat} (h : x.length = i) (hv : v < 4294967296) : at4 (x ++ (leBytes 4 v ++ y)) i = v := by
  unfold at4
  rw [drop_app h, take_app (leBytes_len 4 v), leVal_leBytes (by omega)]
theorem layV_parts {r : Rec} (h : r.Ok F) {n last : Nat} (hn : n < 4294967296) (z : List Nat) :
    at4 (layV r n last ++ z) 9 = linkV last (layA r n) ∧ (layV r n last ++ z).take 9 = layA r n ∧ (layV r n last ++ z).getD 0 0 = r.kind ∧ at4 (layV r n last ++ z) 1 = n ∧ at4 (layV r n last ++ z) 5 = r.data.length := by
  obtain ⟨h1, h2, h3⟩ := h.parts
  have e1 : layV r n last ++ z = layA r n ++ (leBytes 4 (linkV last (layA r n)) ++ (r.data ++ (leBytes 4 (nextV r n last) ++ z))) := by unfold layV layB; simp only [List.append_assoc]
  have key : ∀ X, layA r n ++ X = [r.kind] ++ (leBytes 4 n ++ (leBytes 4 r.data.length ++ X)) := fun X => by unfold layA; simp only [List.append_assoc]
  have e2 := e1.trans (key _)
  have e3 : layV r n last ++ z = ([r.kind] ++ leBytes 4 n) ++ (leBytes 4 r.data.length ++ (leBytes 4 (linkV last (layA r n)) ++ (r.data ++ (leBytes 4 (nextV r n last) ++ z)))) := by rw [e2, List.append_assoc]
  refine ⟨?_, ?_, ?_, ?_, ?_⟩
  · rw [e1]; exact at4_of (layA_len r n) (linkV_lt (layA_bytes h n))
  · rw [e1]; exact take_app (layA_len r n)
  · rw [e2]; rfl
  · rw [e2]; exact at4_of rfl hn
  · rw [e3]; exact at4_of (by rw [List.length_append, leBytes_len]; rfl) (by omega)
theorem layV_end {r : Rec} (h : r.Ok F) {n last : Nat} (hn : n < 4294967296) (z : List Nat) :
    endV (layV r n last ++ z) = 13 + r.data.length ∧ at4 (layV r n last ++ z) (13 + r.data.length) = nextV r n last ∧ (layV r n last ++ z).take (13 + r.data.length) = layB r n last ∧ ((layV r n last ++ z).drop 13).take r.data.length = r.data ∧ (layV r n last ++ z).drop (13 + r.data.length + 4) = z := by
  have e1 : layV r n last ++ z = layB r n last ++ (leBytes 4 (nextV r n last) ++ z) := by unfold layV; rw [List.append_assoc]
  have e2 : layV r n last ++ z = (layA r n ++ leBytes 4 (linkV last (layA r n))) ++ (r.data ++ (leBytes 4 (nextV r n last) ++ z)) := by rw [e1]; unfold layB; simp only [List.append_assoc]
  refine ⟨?_, ?_, ?_, ?_, ?_⟩
  · unfold endV; rw [(layV_parts h hn z).2.2.2.2]
  · rw [e1]; exact at4_of (layB_len r n last) (linkV_lt (layB_bytes h n last))
  · rw [e1]; exact take_app (layB_len r n last)
  · rw [e2, drop_app (by rw [List.length_append, leBytes_len, layA_len]), take_app rfl]
  · exact drop_app (layV_len r n last)
theorem layV_why {r : Rec} (h : r.Ok F) {n last : Nat} (hn : n < 1048576) (z : List Nat) : whyV F (layV r n last ++ z) n last = 0 ∧ recV (layV r n last ++ z) = r := by
  obtain ⟨h1, h2, h3⟩ := h.parts
  obtain ⟨p1, p2, p3, p4, p5⟩ := layV_parts h (n := n) (last := last) (by omega) z
  obtain ⟨q1, q2, q3, q4, q5⟩ := layV_end h (n := n) (last := last) (by omega) z
  refine ⟨?_, ?_⟩
  · unfold whyV
    rw [if_neg (by rw [List.length_append, layV_len]; omega), if_neg (by rw [p1, p2]; exact fun k => k rfl), if_neg (by rw [p3, p4, p5]; omega), if_neg (by rw [q1, List.length_append, layV_len]; omega),
      if_neg (by rw [q1, q2, q3]; exact fun k => k rfl), p3, p5, q4, if_neg (by rw [h.ok]; decide)]
  · unfold recV; rw [p3, p5, q4]
theorem readV_laid : ∀ (l : List Rec) (n last : Nat) (z : List Nat), (∀ r ∈ l, r.Ok F) → n + l.length ≤ 1048576 →
    readV F (laidV l n last ++ z) n last = (l ++ (readV F z (n + l.length) (lastV l n last)).1, (readV F z (n + l.length) (lastV l n last)).2.1, (readV F z (n + l.length) (lastV l n last)).2.2.1 + (laidV l n last).length, (readV F z (n + l.length) (lastV l n last)).2.2.2)
  | [], _, _, _, _, _ => rfl
  | r :: l, n, last, z, h, hn => by
    have hr := h r (by simp)
    rw [List.length_cons] at hn
    have e : laidV (r :: l) n last ++ z = layV r n last ++ (laidV l (n + 1) (nextV r n last) ++ z) := by show (layV r n last ++ _) ++ z = _; rw [List.append_assoc]
    obtain ⟨w1, w2⟩ := layV_why hr (n := n) (last := last) (by omega) (laidV l (n + 1) (nextV r n last) ++ z)
    obtain ⟨q1, q2, q3, q4, q5⟩ := layV_end hr (n := n) (last := last) (by omega) (laidV l (n + 1) (nextV r n last) ++ z)
    have ih := readV_laid l (n + 1) (nextV r n last) z (fun r hr => h r (by simp [hr])) (by omega)
    rw [e, readV_rec w1, w2, q1, q3, q5]
    show (r :: (readV F _ (n + 1) (nextV r n last)).1, (readV F _ (n + 1) (nextV r n last)).2.1, (readV F _ (n + 1) (nextV r n last)).2.2.1 + _, (readV F _ (n + 1) (nextV r n last)).2.2.2) = _
    rw [ih]
    have e1 : n + 1 + l.length = n + (r :: l).length := by rw [List.length_cons]; omega
    have e2 : (laidV (r :: l) n last).length = (layV r n last).length + (laidV l (n + 1) (nextV r n last)).length := List.length_append
    rw [e1, e2, layV_len]
    have e3 : lastV (r :: l) n last = lastV l (n + 1) (nextV r n last) := rfl
    rw [e3, List.cons_append, Nat.add_assoc, Nat.add_comm (laidV l _ _).length]
theorem lastV_lt : ∀ (l : List Rec) (n last : Nat), (∀ r ∈ l, r.Ok F) → last < 4294967296 → lastV l n last < 4294967296
  | [], _, _, _, h => h
  | r :: l, n, last, h, _ => lastV_lt l _ _ (fun r hr => h r (by simp [hr])) (linkV_lt (layB_bytes (h r (by simp)) n last))
theorem readV_back : ∀ (k : Nat) (b : List Nat) (n last : Nat), b.length ≤ k → Bytes b → last < 4294967296 →
    (∀ r ∈ (readV F b n last).1, r.Ok F) ∧ laidV (readV F b n last).1 n last = b.take (readV F b n last).2.2.1 ∧ (readV F b n last).2.2.1 ≤ b.length ∧ ((readV F b n last).2.1 = 0 ↔ (readV F b n last).2.2.1 = b.length) ∧ ((readV F b n last).1 ≠ [] → n + (readV F b n last).1.length ≤ 1048576) ∧ (readV F b n last).2.2.2 = lastV (readV F b n last).1 n last := by
  intro k
  induction k with
  | zero =>
    intro b n last hk _ _
    obtain rfl := List.eq_nil_of_length_eq_zero (Nat.le_zero.1 hk)
    rw [readV_nil]
    exact ⟨(fun r hr => by cases hr), rfl, Nat.le_refl _, by simp, (fun h => absurd rfl h), rfl⟩
  | succ k ih =>
    intro b n last hk hb hl
    by_cases h0 : b = []
    · subst h0
      rw [readV_nil]
      exact ⟨(fun r hr => by cases hr), rfl, Nat.le_refl _, by simp, (fun h => absurd rfl h), rfl⟩
    by_cases hw : whyV F b n last ≠ 0
    · rw [readV_why h0 hw]
      have : b.length ≠ 0 := fun h => h0 (List.eq_nil_of_length_eq_zero h)
      exact ⟨(fun r hr => by cases hr), rfl, Nat.zero_le _, ⟨fun h => absurd h hw, fun h => absurd h.symm this⟩, (fun h => absurd rfl h), rfl⟩
    have hw : whyV F b n last = 0 := by omega
    rw [readV_rec hw]
    unfold whyV at hw
    by_cases c1 : b.length < 13
    · rw [if_pos c1] at hw; cases hw
    rw [if_neg c1] at hw
    by_cases c2 : at4 b 9 ≠ linkV last (b.take 9)
    · rw [if_pos c2] at hw; cases hw
    rw [if_neg c2] at hw
    by_cases c3 : b.getD 0 0 < 1 ∨ 3 < b.getD 0 0 ∨ at4 b 1 ≠ n ∨ 1048576 < at4 b 5 ∨ 1048576 ≤ n
    · rw [if_pos c3] at hw; cases hw
    rw [if_neg c3] at hw
    by_cases c4 : b.length < endV b + 4
    · rw [if_pos c4] at hw; cases hw
    rw [if_neg c4] at hw
    by_cases c5 : at4 b (endV b) ≠ linkV last (b.take (endV b))
    · rw [if_pos c5] at hw; cases hw
    rw [if_neg c5] at hw
    by_cases c6 : checkR F (b.getD 0 0) ((b.drop 13).take (at4 b 5)) ≠ 0
    · rw [if_pos c6] at hw; cases hw
    simp only [ne_eq, Decidable.not_not] at c2 c5 c6
    have hE : endV b = 13 + at4 b 5 := rfl
    have hdl : ((b.drop 13).take (at4 b 5)).length = at4 b 5 := by rw [List.length_take, List.length_drop]; omega
    have hok : (recV b).Ok F := ⟨c6, (hb.drop 13).take _⟩
    have h4 : ∀ i, i + 4 ≤ b.length → leBytes 4 (at4 b i) = (b.drop i).take 4 := fun i hi => leBytes_leVal ((hb.drop i).take 4) (by rw [List.length_take, List.length_drop]; omega)
    have hA : layA (recV b) n = b.take 9 := by
      unfold layA
      have e5 : (recV b).data.length = at4 b 5 := hdl
      have en : n = at4 b 1 := by omega
      rw [e5, en, h4 1 (by omega), h4 5 (by omega)]
      have e0 : [(recV b).kind] = b.take 1 := by
        match b, c1 with
        | c :: t, _ => rfl
        | [], h => exact absurd (by decide) h
      rw [e0, show 9 = 1 + 4 + 4 from rfl, List.take_add, List.take_add]
    have hB : layB (recV b) n last = b.take (endV b) := by
      unfold layB
      rw [hA, ← c2, h4 9 (by omega)]
      show b.take 9 ++ (b.drop 9).take 4 ++ (b.drop 13).take (at4 b 5) = _
      rw [hE, List.take_add, show 13 = 9 + 4 from rfl, List.take_add]
    have hN : nextV (recV b) n last = linkV last (b.take (endV b)) := by unfold nextV; rw [hB]
    have hV : layV (recV b) n last = b.take (endV b + 4) := by
      unfold layV
      rw [hB, hN, ← c5, h4 _ (by omega), List.take_add]
    obtain ⟨i1, i2, i3, i4, i5, i6⟩ := ih (b.drop (endV b + 4)) (n + 1) (linkV last (b.take (endV b))) (by rw [List.length_drop]; omega) (hb.drop _) (linkV_lt (hb.take _))
    rw [List.length_drop] at i3 i4
    refine ⟨?_, ?_, ?_, ?_, ?_, ?_⟩
    · intro r hr
      rcases List.mem_cons.1 hr with rfl | h
      · exact hok
      · exact i1 r h
    · show layV (recV b) n last ++ laidV _ (n + 1) (nextV (recV b) n last) = _
      rw [hN, i2, hV, ← List.take_add, Nat.add_comm]
    · show _ + (endV b + 4) ≤ _
      omega
    · show _ ↔ _ + (endV b + 4) = _
      rw [i4]
      omega
    · intro _
      show n + (_ + 1) ≤ _
      by_cases hz : (readV F (b.drop (endV b + 4)) (n + 1) (linkV last (b.take (endV b)))).1 = []
      · rw [hz]; show n + (0 + 1) ≤ _; omega
      · have := i5 hz; omega
    · show _ = lastV _ (n + 1) (nextV (recV b) n last)
      rw [hN]; exact i6
end Go.Proofs.YtpmjlaiafgbjgaaGreatDoor
end

section
namespace Go.Proofs.YtpmjlaiafgbjgaaGreatDoor
open Go.RowKit
structure ButS (S : Nat → Prop) (w w' : World) : Prop where
  os : w'.os = w.os
  tape : w'.tape = w.tape
  output : w'.output = w.output
  size : w.heap.size ≤ w'.heap.size
  block : ∀ k, k < w.heap.size → ¬ S k → w'.heap[k]? = w.heap[k]?
theorem ButS.in_ {S : Nat → Prop} {a b : World} (h : Within a b) : ButS S a b := ⟨h.os, h.tape, h.output, h.size, fun k hk _ => h.block k hk⟩
theorem ButS.refl (S : Nat → Prop) (w : World) : ButS S w w := ButS.in_ (Within.refl w)
theorem ButS.trans {S S' : Nat → Prop} {a b c : World} (h : ButS S a b) (k : ButS S' b c) (hs : ∀ j, j < a.heap.size → S' j → S j) : ButS S a c :=
  ⟨k.os.trans h.os, k.tape.trans h.tape, k.output.trans h.output, Nat.le_trans h.size k.size, fun j hj hn => (k.block j (Nat.lt_of_lt_of_le hj h.size) (fun h' => hn (hs j hj h'))).trans (h.block j hj hn)⟩
theorem ButS.within {S : Nat → Prop} {a b c : World} (h : ButS S a b) (k : Within b c) : ButS S a c := h.trans (ButS.in_ (S := S) k) fun _ _ h => h
theorem ButS.mono {S S' : Nat → Prop} {a b : World} (h : ButS S a b) (hs : ∀ j, j < a.heap.size → S j → S' j) : ButS S' a b := ⟨h.os, h.tape, h.output, h.size, fun k hk hn => h.block k hk (fun h' => hn (hs k hk h'))⟩
theorem ButS.grown {S : Nat → Prop} {a b c : World} {row : Option Nat} (h : ButS S a b) (k : b.grownBy c row) (hr : ∀ j, row = some j → S j ∨ a.heap.size ≤ j) : ButS S a c :=
  ⟨k.os.trans h.os, k.tape.trans h.tape, k.output.trans h.output, Nat.le_trans h.size k.size, fun j hj hn => (k.block j (Nat.lt_of_lt_of_le hj h.size) (fun e => by rcases hr j e.symm with h' | h'; exact hn h'; omega)).trans (h.block j hj hn)⟩
theorem ButS.set {S : Nat → Prop} {a b : World} (h : ButS S a b) {p : Addr} (hp : S p.block ∨ a.heap.size ≤ p.block) (u : Value) : ButS S a (b.setCell p u) :=
  ⟨h.os, h.tape, h.output, Nat.le_trans h.size (by simp [World.setCell]), fun k hk hn => (Below.heap_setCell _ _ _ _ (by
    intro e; rcases hp with hp | hp
    · exact hn (by rw [e]; exact hp)
    · omega)).trans (h.block k hk hn)⟩
theorem ButS.alloc {S : Nat → Prop} {a b : World} (h : ButS S a b) (o : Obj) : ButS S a (b.alloc o) := h.within ((Within.refl b).alloc o)
theorem ButS.drew {S : Nat → Prop} {a b : World} (h : ButS S a b) : ButS S a b.drew := h.within ((Within.refl b).drew)
theorem ButS.cells {S : Nat → Prop} {a b : World} (h : ButS S a b) (k o : Nat) (hk : k < a.heap.size) (hn : ¬ S k) : b.cell? ⟨k, o, none⟩ = a.cell? ⟨k, o, none⟩ := World.cell?_of_block (h.block k hk hn)
theorem ButS.frozens {S : Nat → Prop} {a b : World} (h : ButS S a b) (k o : Nat) (hk : k < a.heap.size) (hn : ¬ S k) : b.frozen? ⟨k, o, none⟩ = a.frozen? ⟨k, o, none⟩ := World.frozen?_of_block (h.block k hk hn)
theorem ButS.cellA {S : Nat → Prop} {a b : World} (h : ButS S a b) {p : Addr} (hk : p.block < a.heap.size) (hn : ¬ S p.block) : b.cell? p = a.cell? p := World.cell?_of_block (h.block _ hk hn)
theorem Within.asides {S : Nat → Prop} {a b c : World} (k : Within a b) (h : ButS S b c) (hs : ∀ j, S j → a.heap.size ≤ j) : Within a c :=
  ⟨h.os.trans k.os, h.tape.trans k.tape, h.output.trans k.output, Nat.le_trans k.size h.size, fun j hj => (h.block j (Nat.lt_of_lt_of_le hj k.size) (fun h' => by have := hs j h'; omega)).trans (k.block j hj)⟩
theorem SlAt.butS {S : Nat → Prop} {w w' : World} {A : Option Addr} {xs : List Value} (h : SlAt w A xs) (k : ButS S w w') (hA : ∀ ad, A = some ad → ¬ S ad.block) : SlAt w' A xs := fun hn => by
  obtain ⟨ad, e, hb, hc⟩ := h hn
  exact ⟨ad, e, Nat.lt_of_lt_of_le hb k.size, fun j u hu => (k.cellA (by rw [add_block]; exact hb) (by rw [add_block]; exact hA ad e)).trans (hc j u hu)⟩
def More (S : Nat → Prop) (w w' : World) : Nat → Prop := fun k => S k ∨ (w.heap.size ≤ k ∧ k < w'.heap.size)
/-! slices of records -/
abbrev IRec := Int × List Nat
def Rec.i (r : Rec) : IRec := ((r.kind : Int), r.data)
def RecAt (w : World) (D : Nat → Prop) (A : Option Addr) (ls : List IRec) : Prop := ∀ (i : Nat) r, ls[i]? = some r → ∃ ad Dv cv, A = some ad ∧ ad.block < w.heap.size ∧ D ad.block ∧ w.cell? (ad.add (i * 2)) = some (.int .i64 r.1) ∧ w.cell? (ad.add (i * 2 + 1)) = some (.slice Dv r.2.length cv) ∧ r.2.length ≤ cv ∧ SlAt w Dv (u8v r.2) ∧ (∀ x, Dv = some x → D x.block) ∧ Bytes r.2
theorem RecAt.of {w w' : World} {D : Nat → Prop} {A : Option Addr} {ls : List IRec} (h : RecAt w D A ls) (k : Within w w') : RecAt w' D A ls := fun i r hi => by
  obtain ⟨ad, Dv, cv, h1, h2, h3, h4, h5, h6, h7, h8, h9⟩ := h i r hi
  have key : ∀ j, w'.cell? (ad.add j) = w.cell? (ad.add j) := fun j => k.cell (by rw [add_block]; exact h2)
  exact ⟨ad, Dv, cv, h1, Nat.lt_of_lt_of_le h2 k.size, h3, (key _).trans h4, (key _).trans h5, h6, h7.of k, h8, h9⟩
theorem RecAt.butS {S : Nat → Prop} {w w' : World} {D : Nat → Prop} {A : Option Addr} {ls : List IRec} (h : RecAt w D A ls) (k : ButS S w w') (hd : ∀ j, D j → ¬ S j) : RecAt w' D A ls := fun i r hi => by
  obtain ⟨ad, Dv, cv, h1, h2, h3, h4, h5, h6, h7, h8, h9⟩ := h i r hi
  have key : ∀ j, w'.cell? (ad.add j) = w.cell? (ad.add j) := fun j => k.cellA (by rw [add_block]; exact h2) (by rw [add_block]; exact hd _ h3)
  exact ⟨ad, Dv, cv, h1, Nat.lt_of_lt_of_le h2 k.size, h3, (key _).trans h4, (key _).trans h5, h6, h7.butS k (fun x e => hd _ (h8 x e)), h8, h9⟩
theorem RecAt.weak {w : World} {D D' : Nat → Prop} {A : Option Addr} {ls : List IRec} (h : RecAt w D A ls) (hd : ∀ j, D j → D' j) : RecAt w D' A ls := fun i r hi => by
  obtain ⟨ad, Dv, cv, h1, h2, h3, h4, h5, h6, h7, h8, h9⟩ := h i r hi
  exact ⟨ad, Dv, cv, h1, h2, hd _ h3, h4, h5, h6, h7, fun x e => hd _ (h8 x e), h9⟩
theorem RecAt.nil {w : World} {D : Nat → Prop} {A : Option Addr} : RecAt w D A [] := fun i r h => by simp at h
end Go.Proofs.YtpmjlaiafgbjgaaGreatDoor
end

section
namespace Go.Proofs.YtpmjlaiafgbjgaaGreatDoor
open Go.RowKit
theorem le4 (n : Nat) : leBytes 4 n = [n % 256, n / 256 % 256, n / 65536 % 256, n / 16777216 % 256] := by
  show [n % 256, n / 256 % 256, n / 256 / 256 % 256, n / 256 / 256 / 256 % 256] = _
  rw [Nat.div_div_eq_div_mul, Nat.div_div_eq_div_mul]
theorem leVal4 (a b c d : Nat) : leVal [a, b, c, d] = a + 256 * b + 65536 * c + 16777216 * d := by
  show a + 256 * (b + 256 * (c + 256 * (d + 256 * 0))) = _
  omega
theorem take4 {l : List Nat} (h : 4 ≤ l.length) : l.take 4 = [l.getD 0 0, l.getD 1 0, l.getD 2 0, l.getD 3 0] := by
  match l, h with
  | a :: b :: c :: d :: l, _ => simp
set_option maxRecDepth 100000 in
set_option maxHeartbeats 1000000 in
theorem word_any (base : Nat) (v : Value) (l : List Nat) (n : Nat) (hn : n < 4294967296) (hl : l.length + 4 ≤ 140737488355328) (w : World) (hb : base ≤ w.heap.size) (hown : OwnB w base v l) : Calls Tryz.prog 79 #[v, .int .u32 (n : Int)] w fun e w' => ∃ v', e = .returned v' ∧ OwnB w' base v' (l ++ leBytes 4 n) ∧ Below base w w' := by
  obtain ⟨A, c, rfl, _, _, _⟩ := hown.form
  obtain ⟨a0, h0⟩ : ∃ a, a = n % 256 := ⟨_, rfl⟩
  obtain ⟨a1, h1⟩ : ∃ a, a = n / 256 % 256 := ⟨_, rfl⟩
  obtain ⟨a2, h2⟩ : ∃ a, a = n / 65536 % 256 := ⟨_, rfl⟩
  obtain ⟨a3, h3⟩ : ∃ a, a = n / 16777216 % 256 := ⟨_, rfl⟩
  have hle : l ++ leBytes 4 n = l ++ [a0, a1, a2, a3] := by rw [le4, h0, h1, h2, h3]
  have e0 : IntKind.u8.wrap (n : Int) = (a0 : Int) := by rw [IntKind.wrap_u8]; omega
  have s1 : IntKind.u32.wrap ((n : Int) / 256) = (n : Int) / 256 := by rw [IntKind.wrap_u32]; omega
  have s2 : IntKind.u32.wrap ((n : Int) / 65536) = (n : Int) / 65536 := by rw [IntKind.wrap_u32]; omega
  have s3 : IntKind.u32.wrap ((n : Int) / 16777216) = (n : Int) / 16777216 := by rw [IntKind.wrap_u32]; omega
  have e1 : IntKind.u8.wrap ((n : Int) / 256) = (a1 : Int) := by rw [IntKind.wrap_u8]; omega
  have e2 : IntKind.u8.wrap ((n : Int) / 65536) = (a2 : Int) := by rw [IntKind.wrap_u8]; omega
  have e3 : IntKind.u8.wrap ((n : Int) / 16777216) = (a3 : Int) := by rw [IntKind.wrap_u8]; omega
  have hin := (Within.refl w).alloc (.cells #[.int .u8 (a0 : Int), .int .u8 (a1 : Int), .int .u8 (a2 : Int), .int .u8 (a3 : Int)] 5)
  obtain ⟨v', w', hrun, hown', hbl⟩ := run_app_u8 _ base _ l [a0, a1, a2, a3] (hown.of hin) (some ⟨w.heap.size, 0, none⟩) 4 (SlAt.made w [.int .u8 (a0 : Int), .int .u8 (a1 : Int), .int .u8 (a2 : Int), .int .u8 (a3 : Int)] 5) (by simp only [List.length_cons, List.length_nil]; omega) (Nat.le_trans hb hin.size)
  rw [hle]
  have hB : Below base w w' := ((Below.refl base w).alloc hb _).trans hbl
  have RUN := Lib.hid hrun; have HO := Lib.hid hown'; have HB := Lib.hid hB; clear hrun hown' hB hbl hown hin h0 h1 h2 h3 hle
  go_enter Tryz.func79, Tryz.ntmps79
  go_wp2_with (at_builtin; refine wpList_append_run rfl (.tmp 5) (.tmp 17) 28 rfl _ _ rfl rfl RUN.out ?_)
  go_ret
  exact ⟨_, rfl, HO.out, HB.out⟩
set_option maxRecDepth 100000 in
set_option maxHeartbeats 1000000 in
theorem jsum_any (n : Nat) (hn : n < 4294967296) (A : Option Addr) (c : Nat) (l : List Nat) (hb : Bytes l) (hl : l.length ≤ 70368744177664) (w : World) (hr : SlAt w A (u8v l)) : Calls Tryz.prog 80 #[.int .u32 (n : Int), .slice A l.length c] w fun e w' => e = .returned (.int .u32 (linkV n l : Int)) ∧ Within w w' := by
  have W1 := Lib.hid (word_any w.heap.size (.slice none 0 0) [] n hn (by simp) w (Nat.le_refl _) (OwnB.nil_ _ _))
  have HR := Lib.hid hr; have HB := Lib.hid hb; clear hr hb
  go_enter Tryz.func80, Tryz.ntmps80
  go_wp2_with fail
  refine W1.out.mono ?_; rintro e1 w1 ⟨v1, rfl, hO1, hB1⟩
  have hW1 : Within w w1 := hB1
  rw [List.nil_append] at hO1
  obtain ⟨v2, w2, hrun, hO2, hB2⟩ := run_app_u8 w1 w.heap.size v1 (leBytes 4 n) l hO1 A c (HR.out.of hW1) (by rw [leBytes_len]; omega) hW1.size
  obtain ⟨A1, c1, rfl, _, _, _⟩ := hO1.form
  obtain ⟨A2, c2, rfl, hc2, hs2, _⟩ := hO2.form
  have SU := Lib.hid (sum_any A2 c2 (leBytes 4 n ++ l) ((leBytes_bytes _ _).append HB.out) (by rw [List.length_append, leBytes_len]; omega) w2 hs2)
  have hW2 : Within w w2 := Below.trans hW1 hB2
  have RUN := Lib.hid hrun; have HW2 := Lib.hid hW2; clear hrun hW2 hO1 hO2 hs2 hc2 hB1 hB2 hW1
  obtain ⟨N, hN⟩ : ∃ N, (leBytes 4 n ++ l).length = N := ⟨_, rfl⟩
  rw [hN] at SU RUN
  obtain ⟨M, hM⟩ : ∃ M, (leBytes 4 n).length = M := ⟨_, rfl⟩
  rw [hM] at RUN ⊢
  clear hN hM
  go_wp2_with (at_builtin; refine wpList_append_run rfl (.tmp 6) (.tmp 7) 28 rfl _ _ rfl rfl RUN.out ?_)
  refine SU.out.mono ?_; rintro e3 w3 ⟨rfl, rfl⟩
  go_wp2
  go_ret
  exact ⟨rfl, HW2.out⟩
set_option maxRecDepth 100000 in
set_option maxHeartbeats 1000000 in
theorem begin_any (w : World) : Calls Tryz.prog 59 #[] w fun e w' => e = .returned (.int .u32 (startV : Int)) ∧ Within w w' := by
  have SU := Lib.hid (sum_any (some ⟨w.heap.size, 0, none⟩) 8 magicV (by intro x hx; revert x; decide) (by decide) _ (SlAt.made_mark w (u8v magicV) 5 (8, 9)))
  have kc := fun (w : World) (C : Array Value) (n c : Nat) => Lib.run_convert_bytes_const (P := Tryz.prog) w 28 5 C n c (by kernel_rfl) (by kernel_rfl)
  go_enter Tryz.func59, Tryz.ntmps59
  go_wp2_with fail
  refine SU.out.mono ?_; rintro e3 w3 ⟨rfl, rfl⟩
  go_wp2
  go_ret
  exact ⟨rfl, (by repeat (first | with_reducible exact Within.refl _ | with_reducible assumption | with_reducible refine Within.alloc ?_ _ | with_reducible refine Within.drew ?_ | with_reducible refine Within.drewN ?_ _ | with_reducible refine Within.setCell ?_ (by first | (simp; done) | (simp; omega)) _ | with_reducible refine Within.trans ?_ (by assumption)))⟩
set_option maxRecDepth 100000 in
set_option maxHeartbeats 1000000 in
theorem number_any (ad : Addr) (n c : Nat) (l : List Nat) (hb : Bytes l) (h4 : 4 ≤ l.length) (hn : 4 ≤ n) (w : World) (hr : SlAt w (some ad) (u8v l)) : Calls Tryz.prog 81 #[.slice (some ad) n c] w fun e w' => e = .returned (.int .u32 (leVal (l.take 4) : Int)) ∧ Within w w' := by
  have key : ∀ k x, k < 4 → l.getD k 0 = x → w.cell? (ad.add k) = some (.int .u8 (x : Int)) := fun k x hk e => by
    obtain ⟨ad', e', _, h⟩ := hr.at (show k < l.length by omega)
    obtain rfl := Option.some.inj e'; rw [← e]; exact h
  have hbl : ad.block < w.heap.size := by obtain ⟨ad', e', hb', _⟩ := hr (by rw [u8v_len]; omega); obtain rfl := Option.some.inj e'; exact hb'
  rw [take4 h4, leVal4]
  obtain ⟨x0, hx0⟩ : ∃ x, l.getD 0 0 = x := ⟨_, rfl⟩
  obtain ⟨x1, hx1⟩ : ∃ x, l.getD 1 0 = x := ⟨_, rfl⟩
  obtain ⟨x2, hx2⟩ : ∃ x, l.getD 2 0 = x := ⟨_, rfl⟩
  obtain ⟨x3, hx3⟩ : ∃ x, l.getD 3 0 = x := ⟨_, rfl⟩
  have b0 := key 0 x0 (by decide) hx0
  rw [add_nought] at b0
  have b1 := key 1 x1 (by decide) hx1
  have b2 := key 2 x2 (by decide) hx2
  have b3 := key 3 x3 (by decide) hx3
  rw [add_plain' ad (by decide)] at b1 b2 b3
  have l0 : x0 < 256 := by rw [← hx0]; exact hb.at (by omega)
  have l1 : x1 < 256 := by rw [← hx1]; exact hb.at (by omega)
  have l2 : x2 < 256 := by rw [← hx2]; exact hb.at (by omega)
  have l3 : x3 < 256 := by rw [← hx3]; exact hb.at (by omega)
  rw [hx0, hx1, hx2, hx3]
  have o1 : bits .or .u32 (x0 : Int) ((x1 : Int) * 256) = ((x0 + 256 * x1 : Nat) : Int) := by
    have h1 : ((x1 : Int) * 256) = ((x1 * 2 ^ 8 : Nat) : Int) := by omega
    rw [h1, u32_or_nat x0 (x1 * 2 ^ 8) (by omega) (by omega), Nat.or_comm, ← Nat.shiftLeft_eq, ← Nat.shiftLeft_add_eq_or_of_lt (by omega), Nat.shiftLeft_eq]; omega
  have o2 : bits .or .u32 ((x0 : Int) + 256 * (x1 : Int)) ((x2 : Int) * 65536) = ((x0 + 256 * x1 + 65536 * x2 : Nat) : Int) := by
    have h1 : ((x2 : Int) * 65536) = ((x2 * 2 ^ 16 : Nat) : Int) := by omega
    have h2 : ((x0 : Int) + 256 * (x1 : Int)) = ((x0 + 256 * x1 : Nat) : Int) := by omega
    rw [h1, h2, u32_or_nat _ (x2 * 2 ^ 16) (by omega) (by omega), Nat.or_comm, ← Nat.shiftLeft_eq, ← Nat.shiftLeft_add_eq_or_of_lt (by omega), Nat.shiftLeft_eq]; omega
  have o3 : bits .or .u32 ((x0 : Int) + 256 * (x1 : Int) + 65536 * (x2 : Int)) ((x3 : Int) * 16777216) = ((x0 + 256 * x1 + 65536 * x2 + 16777216 * x3 : Nat) : Int) := by
    have h1 : ((x3 : Int) * 16777216) = ((x3 * 2 ^ 24 : Nat) : Int) := by omega
    have h2 : ((x0 : Int) + 256 * (x1 : Int) + 65536 * (x2 : Int)) = ((x0 + 256 * x1 + 65536 * x2 : Nat) : Int) := by omega
    rw [h1, h2, u32_or_nat _ (x3 * 2 ^ 24) (by omega) (by omega), Nat.or_comm, ← Nat.shiftLeft_eq, ← Nat.shiftLeft_add_eq_or_of_lt (by omega), Nat.shiftLeft_eq]; omega
  have c0 : IntKind.u32.wrap (x0 : Int) = (x0 : Int) := by rw [IntKind.wrap_u32]; omega
  have c1 : IntKind.u32.wrap (x1 : Int) = (x1 : Int) := by rw [IntKind.wrap_u32]; omega
  have c2 : IntKind.u32.wrap (x2 : Int) = (x2 : Int) := by rw [IntKind.wrap_u32]; omega
  have c3 : IntKind.u32.wrap (x3 : Int) = (x3 : Int) := by rw [IntKind.wrap_u32]; omega
  have m1 : IntKind.u32.wrap ((x1 : Int) * 256) = (x1 : Int) * 256 := by rw [IntKind.wrap_u32]; omega
  have m2 : IntKind.u32.wrap ((x2 : Int) * 65536) = (x2 : Int) * 65536 := by rw [IntKind.wrap_u32]; omega
  have m3 : IntKind.u32.wrap ((x3 : Int) * 16777216) = (x3 : Int) * 16777216 := by rw [IntKind.wrap_u32]; omega
  have n0 : 0 < n := by omega
  have i0 : (0 : Int) < (n : Int) := by omega
  have i1 : (1 : Int) < (n : Int) := by omega
  have i2 : (2 : Int) < (n : Int) := by omega
  have i3 : (3 : Int) < (n : Int) := by omega
  clear key hr hb hx0 hx1 hx2 hx3
  go_enter Tryz.func81, Tryz.ntmps81
  go_wp2_with fail
  refine wp_region_schG (fun W => W.cell? ad = some (.int .u8 (x0 : Int)) ∧ W.cell? ⟨ad.block, ad.off + 1, none⟩ = some (.int .u8 (x1 : Int)) ∧ W.cell? ⟨ad.block, ad.off + 2, none⟩ = some (.int .u8 (x2 : Int)) ∧ W.cell? ⟨ad.block, ad.off + 3, none⟩ = some (.int .u8 (x3 : Int)) ∧ ad.block < W.heap.size ∧ W = w) 22 (.firm 0 (.firm 1 (.firm 2 (.firm 3 (.firm 4 (.firm 5 (.firm 6 (.firm 7 (.firm 8 (.firm 9 (.firm 10 (.firm 11 (.firm 12 (.firm 13 (.firm 14 (.firm 15 (.firm 16 (.firm 17 (.firm 18 (.firm 19 (.firm 20 (.firm 21 (.one 22 .nil))))))))))))))))))))))) (by kernel_rfl) (by kernel_rfl) ⟨b0, b1, b2, b3, hbl, rfl⟩ ?_
  rintro w0 ⟨k0, k1, k2, k3, kb, rfl⟩
  try simp only [Act.put, List.setIfInBounds_toArray, List.set_cons_zero, List.set_cons_succ]
  iterate 22
    apply sch_firm rfl rfl (by repeat (first | with_reducible exact Within.refl _ | with_reducible assumption | with_reducible refine Within.alloc ?_ _ | with_reducible refine Within.drew ?_ | with_reducible refine Within.drewN ?_ _ | with_reducible refine Within.setCell ?_ (by first | (simp; done) | (simp; omega)) _ | with_reducible refine Within.trans ?_ (by assumption)))
    · intro wq hq
      have hcq := hq.cells
      have q0 := (hq.cell (p := ad) kb).trans k0
      have q1 := (hq.cell (p := ⟨ad.block, ad.off + 1, none⟩) kb).trans k1
      have q2 := (hq.cell (p := ⟨ad.block, ad.off + 2, none⟩) kb).trans k2
      have q3 := (hq.cell (p := ⟨ad.block, ad.off + 3, none⟩) kb).trans k3
      clear hq
      go_simp
      rfl
    try simp only [Act.put, List.setIfInBounds_toArray, List.set_cons_zero, List.set_cons_succ]
  refine sch_one rfl rfl (fun K hK => ?_)
  go_simp
  refine hK _ _ (fun h => absurd h (by decide)) ?_
  clear hK K
  try simp only [Act.put, List.setIfInBounds_toArray, List.set_cons_zero, List.set_cons_succ]
  refine sch_nil ?_
  go_wp2
  go_ret
  exact ⟨by first | rfl | exact ret_int (by omega), (by repeat (first | with_reducible exact Within.refl _ | with_reducible assumption | with_reducible refine Within.alloc ?_ _ | with_reducible refine Within.drew ?_ | with_reducible refine Within.drewN ?_ _ | with_reducible refine Within.setCell ?_ (by first | (simp; done) | (simp; omega)) _ | with_reducible refine Within.trans ?_ (by assumption)))⟩
end Go.Proofs.YtpmjlaiafgbjgaaGreatDoor
end

section
namespace Go.Proofs.YtpmjlaiafgbjgaaGreatDoor
open Go.RowKit
def noteOk (c : Nat) : Bool := decide (32 ≤ c ∧ c ≤ 126)
theorem checkR_kind {k : Int} {d : List Nat} (h : k < 1 ∨ 3 < k) : checkR pf k d = 220 := by unfold checkR; rw [if_pos h]
theorem checkR_long {k : Int} {d : List Nat} (h : ¬ (k < 1 ∨ 3 < k)) (h2 : 1048576 < d.length) : checkR pf k d = 2 := by unfold checkR; rw [if_neg h, if_pos h2]
theorem checkR_read {d : List Nat} (h2 : ¬ 1048576 < d.length) : checkR pf 1 d = if unpackE pf d = 0 then 0 else 220 := by unfold checkR; rw [if_neg (by decide), if_neg h2, if_pos rfl]
theorem checkR_mark {d : List Nat} (h2 : ¬ 1048576 < d.length) : checkR pf 2 d = 0 := by unfold checkR; rw [if_neg (by decide), if_neg h2, if_neg (by decide), if_neg (by decide)]
theorem checkR_note {d : List Nat} (h2 : ¬ 1048576 < d.length) : checkR pf 3 d = if d.all noteOk then 0 else 220 := by unfold checkR; rw [if_neg (by decide), if_neg h2, if_neg (by decide), if_pos rfl]; rfl
set_option maxRecDepth 100000 in
set_option maxHeartbeats 1000000 in
theorem jcheck_kind (A : Option Addr) (c : Nat) (d : List Nat) (k : Int) (h : k < 1 ∨ 3 < k) (w : World)  : Calls Tryz.prog 32 #[.agg #[.int .i64 k, .slice A d.length c]] w fun e w' => e = .returned (.int .i64 220) ∧ Within w w' := by
  have hk : (decide (k < 1) || decide (k > 3)) = true := by rcases h with h | h; simp [h]; simp [h]
  cases e1 : decide (k < 1) <;> cases e2 : decide (k > 3) <;> simp only [e1, e2, Bool.or_false, Bool.false_eq_true] at hk
  all_goals
    clear h hk
    go_enter Tryz.func32, Tryz.ntmps32
    go_wp2
    go_ret
    exact ⟨rfl, (by repeat (first | with_reducible exact Within.refl _ | with_reducible assumption | with_reducible refine Within.alloc ?_ _ | with_reducible refine Within.drew ?_ | with_reducible refine Within.drewN ?_ _ | with_reducible refine Within.setCell ?_ (by first | (simp; done) | (simp; omega)) _ | with_reducible refine Within.trans ?_ (by assumption)))⟩
set_option maxRecDepth 100000 in
set_option maxHeartbeats 1000000 in
theorem jcheck_long (A : Option Addr) (c : Nat) (d : List Nat) (k : Int) (h : ¬ (k < 1 ∨ 3 < k)) (h2 : 1048576 < d.length) (hl : d.length ≤ 1152921504606846976) (w : World)  : Calls Tryz.prog 32 #[.agg #[.int .i64 k, .slice A d.length c]] w fun e w' => e = .returned (.int .i64 2) ∧ Within w w' := by
  have e1 : decide (k < 1) = false := decide_eq_false (by omega)
  have e2 : decide (k > 3) = false := decide_eq_false (by omega)
  have e3 : 1048576 < d.length := h2
  have HL := Lib.hid hl
  clear h
  go_enter Tryz.func32, Tryz.ntmps32
  go_wp2
  go_ret
  exact ⟨rfl, (by repeat (first | with_reducible exact Within.refl _ | with_reducible assumption | with_reducible refine Within.alloc ?_ _ | with_reducible refine Within.drew ?_ | with_reducible refine Within.drewN ?_ _ | with_reducible refine Within.setCell ?_ (by first | (simp; done) | (simp; omega)) _ | with_reducible refine Within.trans ?_ (by assumption)))⟩
set_option maxRecDepth 100000 in
set_option maxHeartbeats 1000000 in
theorem jcheck_mark (A : Option Addr) (c : Nat) (d : List Nat) (h2 : ¬ 1048576 < d.length) (w : World)  : Calls Tryz.prog 32 #[.agg #[.int .i64 2, .slice A d.length c]] w fun e w' => e = .returned (.int .i64 0) ∧ Within w w' := by
  have e3 : ¬ 1048576 < d.length := h2
  have e0 : (0 : Int) ≤ (d.length : Int) := by omega
  go_enter Tryz.func32, Tryz.ntmps32
  go_wp2
  go_ret
  exact ⟨rfl, (by repeat (first | with_reducible exact Within.refl _ | with_reducible assumption | with_reducible refine Within.alloc ?_ _ | with_reducible refine Within.drew ?_ | with_reducible refine Within.drewN ?_ _ | with_reducible refine Within.setCell ?_ (by first | (simp; done) | (simp; omega)) _ | with_reducible refine Within.trans ?_ (by assumption)))⟩
set_option maxRecDepth 100000 in
set_option maxHeartbeats 1000000 in
theorem jcheck_read (A : Option Addr) (c : Nat) (d : List Nat) (hb : Bytes d) (hc : d.length ≤ c) (h2 : ¬ 1048576 < d.length) (hz : unpackE pf d = 0) (w : World) (hT : FmS w) (hr : SlAt w A (u8v d)) : Calls Tryz.prog 32 #[.agg #[.int .i64 1, .slice A d.length c]] w fun e w' => e = .returned (.int .i64 0) ∧ Within w w' := by
  have UN := Lib.hid (Unpack_any A c d hb (by omega) hc (w.alloc (.cells #[.int .i64 1, .slice A d.length c] 30)) (hT.of ((Within.refl w).alloc _)) (hr.of ((Within.refl w).alloc _)))
  obtain ⟨E, hE⟩ : ∃ E, E = unpackE pf d := ⟨_, rfl⟩
  rw [← hE] at UN hz
  obtain ⟨rd, hrd⟩ : ∃ rd, rd = rdOf d := ⟨_, rfl⟩
  rw [← hrd] at UN
  clear hE hrd hr hb
  clear hT
  have e3 : ¬ 1048576 < d.length := h2
  subst hz
  go_enter Tryz.func32, Tryz.ntmps32
  go_wp2_with fail
  refine UN.out.mono ?_; rintro e1 w1 ⟨v1, rfl, hO1, h1⟩
  obtain ⟨A1, c1, rfl, hx1, hs1, hy1⟩ := hO1.form
  clear hO1 hx1 hs1 hy1
  have hW1 : Within w w1 := Within.trans ((Within.refl w).alloc _) h1
  go_wp2
  go_ret
  exact ⟨rfl, (by repeat (first | with_reducible exact Within.refl _ | with_reducible assumption | with_reducible refine Within.alloc ?_ _ | with_reducible refine Within.drew ?_ | with_reducible refine Within.drewN ?_ _ | with_reducible refine Within.setCell ?_ (by first | (simp; done) | (simp; omega)) _ | with_reducible refine Within.trans ?_ (by assumption)))⟩
set_option maxRecDepth 100000 in
set_option maxHeartbeats 1000000 in
theorem jcheck_read_no (A : Option Addr) (c : Nat) (d : List Nat) (hb : Bytes d) (hc : d.length ≤ c) (h2 : ¬ 1048576 < d.length) (hz : unpackE pf d ≠ 0) (w : World) (hT : FmS w) (hr : SlAt w A (u8v d)) : Calls Tryz.prog 32 #[.agg #[.int .i64 1, .slice A d.length c]] w fun e w' => e = .returned (.int .i64 220) ∧ Within w w' := by
  have UN := Lib.hid (Unpack_any A c d hb (by omega) hc (w.alloc (.cells #[.int .i64 1, .slice A d.length c] 30)) (hT.of ((Within.refl w).alloc _)) (hr.of ((Within.refl w).alloc _)))
  obtain ⟨E, hE⟩ : ∃ E, E = unpackE pf d := ⟨_, rfl⟩
  rw [← hE] at UN hz
  obtain ⟨rd, hrd⟩ : ∃ rd, rd = rdOf d := ⟨_, rfl⟩
  rw [← hrd] at UN
  clear hE hrd hr hb
  clear hT
  have e3 : ¬ 1048576 < d.length := h2
  have hne : (E != 0) = true := bne_iff_ne.2 hz
  go_enter Tryz.func32, Tryz.ntmps32
  go_wp2_with fail
  refine UN.out.mono ?_; rintro e1 w1 ⟨v1, rfl, hO1, h1⟩
  obtain ⟨A1, c1, rfl, hx1, hs1, hy1⟩ := hO1.form
  clear hO1 hx1 hs1 hy1
  have hW1 : Within w w1 := Within.trans ((Within.refl w).alloc _) h1
  go_wp2
  go_ret
  exact ⟨rfl, (by repeat (first | with_reducible exact Within.refl _ | with_reducible assumption | with_reducible refine Within.alloc ?_ _ | with_reducible refine Within.drew ?_ | with_reducible refine Within.drewN ?_ _ | with_reducible refine Within.setCell ?_ (by first | (simp; done) | (simp; omega)) _ | with_reducible refine Within.trans ?_ (by assumption)))⟩
set_option maxRecDepth 100000 in
set_option maxHeartbeats 1000000 in
theorem jcheck_note (A : Option Addr) (c : Nat) (d : List Nat) (hb : Bytes d) (h2 : ¬ 1048576 < d.length) (w : World) (hr : SlAt w A (u8v d)) : Calls Tryz.prog 32 #[.agg #[.int .i64 3, .slice A d.length c]] w fun e w' => e = .returned (.int .i64 (if d.all noteOk = true then 0 else 220)) ∧ Within w w' := by
  obtain ⟨RV, hRV⟩ : ∃ RV : Int, RV = (if d.all noteOk = true then 0 else 220) := ⟨_, rfl⟩
  rw [← hRV]
  have HRV := Lib.hid hRV; clear hRV
  have e3 : ¬ 1048576 < d.length := h2
  have hl := Nat.le_of_not_lt h2
  have HB := Lib.hid hb; have HR := Lib.hid (hr.of ((Within.refl w).alloc (.cells #[.int .i64 3, .slice A d.length c] 30))); clear hr hb
  have FA : Hid (∀ k, k < d.length → noteOk (d.getD k 0) = false → d.all noteOk = false) := Lib.hid (fun k hk h => all_false hk h)
  have AS : Hid (∀ k, k < d.length → (d.take (k + 1)).all noteOk = ((d.take k).all noteOk && noteOk (d.getD k 0))) := Lib.hid (fun k hk => all_snoc hk)
  go_enter Tryz.func32, Tryz.ntmps32
  go_wp2
  go_loop [35] (fun iv => ∃ k : Nat, k ≤ d.length ∧ iv = .int .i64 (k : Int) ∧ (d.take k).all noteOk = true) (fun iv => d.length - (intOf iv).toNat)
  case atStart => exact ⟨0, Nat.zero_le _, rfl, rfl⟩
  case round =>
    obtain ⟨k, hk, rfl, hall⟩ := hrel
    by_cases hlt : k < d.length
    · obtain ⟨ad, rfl, hblk, hcx⟩ := HR.out.at hlt
      have hfa := FA.out k hlt
      have has := AS.out k hlt
      obtain ⟨x, hx⟩ : ∃ x, x = d.getD k 0 := ⟨_, rfl⟩
      rw [← hx] at hcx hfa has
      have hxl : x < 256 := by rw [hx]; exact HB.out.at hlt
      have HFA := Lib.hid hfa; have HAS := Lib.hid has; have HALL := Lib.hid hall; clear hx hfa has hall
      have k1 : (k : Int) < (d.length : Int) := by omega
      by_cases x1 : x < 32
      · have q1 : decide ((x : Int) < 32) = true := decide_eq_true (by omega)
        have hno : noteOk x = false := by unfold noteOk; exact decide_eq_false (by omega)
        have HV := Lib.hid (HFA.out hno); clear hno
        go_wp2
        go_ret
        exact ⟨by (rw [HRV.out, if_neg (by rw [HV.out]; decide)] <;> rfl), (by repeat (first | with_reducible exact Within.refl _ | with_reducible assumption | with_reducible refine Within.alloc ?_ _ | with_reducible refine Within.drew ?_ | with_reducible refine Within.drewN ?_ _ | with_reducible refine Within.setCell ?_ (by first | (simp; done) | (simp; omega)) _ | with_reducible refine Within.trans ?_ (by assumption)))⟩
      · by_cases x2 : 126 < x
        · have q1 : decide ((x : Int) < 32) = false := decide_eq_false (by omega)
          have q2 : decide ((x : Int) > 126) = true := decide_eq_true (by omega)
          have hno : noteOk x = false := by unfold noteOk; exact decide_eq_false (by omega)
          have HV := Lib.hid (HFA.out hno); clear hno
          go_wp2
          go_ret
          exact ⟨by (rw [HRV.out, if_neg (by rw [HV.out]; decide)] <;> rfl), (by repeat (first | with_reducible exact Within.refl _ | with_reducible assumption | with_reducible refine Within.alloc ?_ _ | with_reducible refine Within.drew ?_ | with_reducible refine Within.drewN ?_ _ | with_reducible refine Within.setCell ?_ (by first | (simp; done) | (simp; omega)) _ | with_reducible refine Within.trans ?_ (by assumption)))⟩
        · have q1 : decide ((x : Int) < 32) = false := decide_eq_false (by omega)
          have q2 : decide ((x : Int) > 126) = false := decide_eq_false (by omega)
          have hyes : noteOk x = true := by unfold noteOk; exact decide_eq_true (by omega)
          have HV := Lib.hid hyes; clear hyes
          go_wp2
          go_round
          case rel => exact ⟨k + 1, hlt, by go_num, by rw [HAS.out, HALL.out, HV.out]; rfl⟩
          case measure => simp [intOf]; omega
    · obtain rfl : k = d.length := by omega
      rw [List.take_of_length_le (Nat.le_refl _)] at hall
      have HV := Lib.hid hall; clear hall
      go_wp2
      go_ret
      exact ⟨by (rw [HRV.out, if_pos HV.out] <;> rfl), (by repeat (first | with_reducible exact Within.refl _ | with_reducible assumption | with_reducible refine Within.alloc ?_ _ | with_reducible refine Within.drew ?_ | with_reducible refine Within.drewN ?_ _ | with_reducible refine Within.setCell ?_ (by first | (simp; done) | (simp; omega)) _ | with_reducible refine Within.trans ?_ (by assumption)))⟩
theorem jcheck_any (k : Int) (A : Option Addr) (c : Nat) (d : List Nat) (hb : Bytes d) (hc : d.length ≤ c) (hl : d.length ≤ 1152921504606846976) (w : World) (hT : FmS w) (hr : SlAt w A (u8v d)) : Calls Tryz.prog 32 #[.agg #[.int .i64 k, .slice A d.length c]] w fun e w' => e = .returned (.int .i64 (checkR pf k d)) ∧ Within w w' := by
  by_cases h : k < 1 ∨ 3 < k
  · rw [checkR_kind h]; exact jcheck_kind A c d k h w
  by_cases h2 : 1048576 < d.length
  · rw [checkR_long h h2]; exact jcheck_long A c d k h h2 hl w
  rcases (by omega : k = 1 ∨ k = 2 ∨ k = 3) with rfl | rfl | rfl
  · rw [checkR_read h2]
    by_cases hz : unpackE pf d = 0
    · rw [if_pos hz]; exact jcheck_read A c d hb hc h2 hz w hT hr
    · rw [if_neg hz]; exact jcheck_read_no A c d hb hc h2 hz w hT hr
  · rw [checkR_mark h2]; exact jcheck_mark A c d h2 w
  · rw [checkR_note h2]; exact jcheck_note A c d hb h2 w hr
set_option maxRecDepth 100000 in
set_option maxHeartbeats 1000000 in
theorem Rjcheck_kind (A : Option Addr) (c : Nat) (d : List Nat) (k : Int) (h : k < 1 ∨ 3 < k) (w : World)  : Calls Tryz.prog 34 #[.agg #[.int .i64 k, .slice A d.length c]] w fun e w' => e = .returned (.int .i64 220) ∧ Within w w' := by
  have hk : (decide (k < 1) || decide (k > 3)) = true := by rcases h with h | h; simp [h]; simp [h]
  cases e1 : decide (k < 1) <;> cases e2 : decide (k > 3) <;> simp only [e1, e2, Bool.or_false, Bool.false_eq_true] at hk
  all_goals
    clear h hk
    go_enter Tryz.func34, Tryz.ntmps34
    go_wp2
    go_ret
    exact ⟨rfl, (by repeat (first | with_reducible exact Within.refl _ | with_reducible assumption | with_reducible refine Within.alloc ?_ _ | with_reducible refine Within.drew ?_ | with_reducible refine Within.drewN ?_ _ | with_reducible refine Within.setCell ?_ (by first | (simp; done) | (simp; omega)) _ | with_reducible refine Within.trans ?_ (by assumption)))⟩
set_option maxRecDepth 100000 in
set_option maxHeartbeats 1000000 in
theorem Rjcheck_long (A : Option Addr) (c : Nat) (d : List Nat) (k : Int) (h : ¬ (k < 1 ∨ 3 < k)) (h2 : 1048576 < d.length) (hl : d.length ≤ 1152921504606846976) (w : World)  : Calls Tryz.prog 34 #[.agg #[.int .i64 k, .slice A d.length c]] w fun e w' => e = .returned (.int .i64 2) ∧ Within w w' := by
  have e1 : decide (k < 1) = false := decide_eq_false (by omega)
  have e2 : decide (k > 3) = false := decide_eq_false (by omega)
  have e3 : 1048576 < d.length := h2
  have HL := Lib.hid hl
  clear h
  go_enter Tryz.func34, Tryz.ntmps34
  go_wp2
  go_ret
  exact ⟨rfl, (by repeat (first | with_reducible exact Within.refl _ | with_reducible assumption | with_reducible refine Within.alloc ?_ _ | with_reducible refine Within.drew ?_ | with_reducible refine Within.drewN ?_ _ | with_reducible refine Within.setCell ?_ (by first | (simp; done) | (simp; omega)) _ | with_reducible refine Within.trans ?_ (by assumption)))⟩
set_option maxRecDepth 100000 in
set_option maxHeartbeats 1000000 in
theorem Rjcheck_mark (A : Option Addr) (c : Nat) (d : List Nat) (h2 : ¬ 1048576 < d.length) (w : World)  : Calls Tryz.prog 34 #[.agg #[.int .i64 2, .slice A d.length c]] w fun e w' => e = .returned (.int .i64 0) ∧ Within w w' := by
  have e3 : ¬ 1048576 < d.length := h2
  have e0 : (0 : Int) ≤ (d.length : Int) := by omega
  go_enter Tryz.func34, Tryz.ntmps34
  go_wp2
  go_loop [5] (fun iv => iv = .int .i64 0) (fun _ => 0)
  case atStart => rfl
  case round =>
    obtain rfl := hrel
    rcases Nat.eq_zero_or_pos d.length with h0 | h0
    · rw [h0]
      go_wp2
      go_ret
      exact ⟨rfl, (by repeat (first | with_reducible exact Within.refl _ | with_reducible assumption | with_reducible refine Within.alloc ?_ _ | with_reducible refine Within.drew ?_ | with_reducible refine Within.drewN ?_ _ | with_reducible refine Within.setCell ?_ (by first | (simp; done) | (simp; omega)) _ | with_reducible refine Within.trans ?_ (by assumption)))⟩
    · have h1 : (0 : Int) < (d.length : Int) := by omega
      go_wp2
      go_ret
      exact ⟨rfl, (by repeat (first | with_reducible exact Within.refl _ | with_reducible assumption | with_reducible refine Within.alloc ?_ _ | with_reducible refine Within.drew ?_ | with_reducible refine Within.drewN ?_ _ | with_reducible refine Within.setCell ?_ (by first | (simp; done) | (simp; omega)) _ | with_reducible refine Within.trans ?_ (by assumption)))⟩
set_option maxRecDepth 100000 in
set_option maxHeartbeats 1000000 in
theorem Rjcheck_read (A : Option Addr) (c : Nat) (d : List Nat) (hb : Bytes d) (hc : d.length ≤ c) (h2 : ¬ 1048576 < d.length) (hz : unpackE pf d = 0) (w : World) (hr : SlAt w A (u8v d)) : Calls Tryz.prog 34 #[.agg #[.int .i64 1, .slice A d.length c]] w fun e w' => e = .returned (.int .i64 0) ∧ Within w w' := by
  have UN := Lib.hid (Runpack_any A c d hb (by omega) hc (w.alloc (.cells #[.int .i64 1, .slice A d.length c] 30)) (hr.of ((Within.refl w).alloc _)))
  obtain ⟨E, hE⟩ : ∃ E, E = unpackE pf d := ⟨_, rfl⟩
  rw [← hE] at UN hz
  obtain ⟨rd, hrd⟩ : ∃ rd, rd = rdOf d := ⟨_, rfl⟩
  rw [← hrd] at UN
  clear hE hrd hr hb
  have e3 : ¬ 1048576 < d.length := h2
  subst hz
  go_enter Tryz.func34, Tryz.ntmps34
  go_wp2_with fail
  refine UN.out.mono ?_; rintro e1 w1 ⟨v1, rfl, hO1, h1⟩
  obtain ⟨A1, c1, rfl, hx1, hs1, hy1⟩ := hO1.form
  clear hO1 hx1 hs1 hy1
  have hW1 : Within w w1 := Within.trans ((Within.refl w).alloc _) h1
  have k0 : w1.cell? ⟨w.heap.size, 0, none⟩ = some (.int .i64 1) := (h1.cells _ _ (by simp)).trans (by simp)
  have k1 : w1.cell? ⟨w.heap.size, 1, none⟩ = some (.slice A d.length c) := (h1.cells _ _ (by simp)).trans (by simp)
  have kl : w.heap.size < w1.heap.size := World.block_lt_of_cell? _ _ k0
  have kn : ¬ w.heap.size = w1.heap.size := by omega
  go_wp2
  go_loop [5] (fun iv => iv = .int .i64 0) (fun _ => 0)
  case atStart => rfl
  case round =>
    obtain rfl := hrel
    rcases Nat.eq_zero_or_pos d.length with h0 | h0
    · rw [h0] at k1 ⊢
      go_wp2
      go_ret
      exact ⟨rfl, (by repeat (first | with_reducible exact Within.refl _ | with_reducible assumption | with_reducible refine Within.alloc ?_ _ | with_reducible refine Within.drew ?_ | with_reducible refine Within.drewN ?_ _ | with_reducible refine Within.setCell ?_ (by first | (simp; done) | (simp; omega)) _ | with_reducible refine Within.trans ?_ (by assumption)))⟩
    · have h1' : (0 : Int) < (d.length : Int) := by omega
      go_wp2
      go_ret
      exact ⟨rfl, (by repeat (first | with_reducible exact Within.refl _ | with_reducible assumption | with_reducible refine Within.alloc ?_ _ | with_reducible refine Within.drew ?_ | with_reducible refine Within.drewN ?_ _ | with_reducible refine Within.setCell ?_ (by first | (simp; done) | (simp; omega)) _ | with_reducible refine Within.trans ?_ (by assumption)))⟩
set_option maxRecDepth 100000 in
set_option maxHeartbeats 1000000 in
theorem Rjcheck_read_no (A : Option Addr) (c : Nat) (d : List Nat) (hb : Bytes d) (hc : d.length ≤ c) (h2 : ¬ 1048576 < d.length) (hz : unpackE pf d ≠ 0) (w : World) (hr : SlAt w A (u8v d)) : Calls Tryz.prog 34 #[.agg #[.int .i64 1, .slice A d.length c]] w fun e w' => e = .returned (.int .i64 220) ∧ Within w w' := by
  have UN := Lib.hid (Runpack_any A c d hb (by omega) hc (w.alloc (.cells #[.int .i64 1, .slice A d.length c] 30)) (hr.of ((Within.refl w).alloc _)))
  obtain ⟨E, hE⟩ : ∃ E, E = unpackE pf d := ⟨_, rfl⟩
  rw [← hE] at UN hz
  obtain ⟨rd, hrd⟩ : ∃ rd, rd = rdOf d := ⟨_, rfl⟩
  rw [← hrd] at UN
  clear hE hrd hr hb
  have e3 : ¬ 1048576 < d.length := h2
  have hne : (E != 0) = true := bne_iff_ne.2 hz
  go_enter Tryz.func34, Tryz.ntmps34
  go_wp2_with fail
  refine UN.out.mono ?_; rintro e1 w1 ⟨v1, rfl, hO1, h1⟩
  obtain ⟨A1, c1, rfl, hx1, hs1, hy1⟩ := hO1.form
  clear hO1 hx1 hs1 hy1
  have hW1 : Within w w1 := Within.trans ((Within.refl w).alloc _) h1
  go_wp2
  go_ret
  exact ⟨rfl, (by repeat (first | with_reducible exact Within.refl _ | with_reducible assumption | with_reducible refine Within.alloc ?_ _ | with_reducible refine Within.drew ?_ | with_reducible refine Within.drewN ?_ _ | with_reducible refine Within.setCell ?_ (by first | (simp; done) | (simp; omega)) _ | with_reducible refine Within.trans ?_ (by assumption)))⟩
set_option maxRecDepth 100000 in
set_option maxHeartbeats 1000000 in
theorem Rjcheck_note (A : Option Addr) (c : Nat) (d : List Nat) (hb : Bytes d) (h2 : ¬ 1048576 < d.length) (w : World) (hr : SlAt w A (u8v d)) : Calls Tryz.prog 34 #[.agg #[.int .i64 3, .slice A d.length c]] w fun e w' => e = .returned (.int .i64 (if d.all noteOk = true then 0 else 220)) ∧ Within w w' := by
  obtain ⟨RV, hRV⟩ : ∃ RV : Int, RV = (if d.all noteOk = true then 0 else 220) := ⟨_, rfl⟩
  rw [← hRV]
  have HRV := Lib.hid hRV; clear hRV
  have e3 : ¬ 1048576 < d.length := h2
  have hl := Nat.le_of_not_lt h2
  have HB := Lib.hid hb; have HR := Lib.hid (hr.of ((Within.refl w).alloc (.cells #[.int .i64 3, .slice A d.length c] 30))); clear hr hb
  have FA : Hid (∀ k, k < d.length → noteOk (d.getD k 0) = false → d.all noteOk = false) := Lib.hid (fun k hk h => all_false hk h)
  have AS : Hid (∀ k, k < d.length → (d.take (k + 1)).all noteOk = ((d.take k).all noteOk && noteOk (d.getD k 0))) := Lib.hid (fun k hk => all_snoc hk)
  go_enter Tryz.func34, Tryz.ntmps34
  go_wp2
  go_loop [5] (fun iv => ∃ k : Nat, k ≤ d.length ∧ iv = .int .i64 (k : Int) ∧ (d.take k).all noteOk = true) (fun iv => d.length - (intOf iv).toNat)
  case atStart => exact ⟨0, Nat.zero_le _, rfl, rfl⟩
  case round =>
    obtain ⟨k, hk, rfl, hall⟩ := hrel
    by_cases hlt : k < d.length
    · obtain ⟨ad, rfl, hblk, hcx⟩ := HR.out.at hlt
      have hfa := FA.out k hlt
      have has := AS.out k hlt
      obtain ⟨x, hx⟩ : ∃ x, x = d.getD k 0 := ⟨_, rfl⟩
      rw [← hx] at hcx hfa has
      have hxl : x < 256 := by rw [hx]; exact HB.out.at hlt
      have HFA := Lib.hid hfa; have HAS := Lib.hid has; have HALL := Lib.hid hall; clear hx hfa has hall
      have k1 : (k : Int) < (d.length : Int) := by omega
      by_cases x1 : x < 32
      · have q1 : decide ((x : Int) < 32) = true := decide_eq_true (by omega)
        have hno : noteOk x = false := by unfold noteOk; exact decide_eq_false (by omega)
        have HV := Lib.hid (HFA.out hno); clear hno
        go_wp2
        go_ret
        exact ⟨by (rw [HRV.out, if_neg (by rw [HV.out]; decide)] <;> rfl), (by repeat (first | with_reducible exact Within.refl _ | with_reducible assumption | with_reducible refine Within.alloc ?_ _ | with_reducible refine Within.drew ?_ | with_reducible refine Within.drewN ?_ _ | with_reducible refine Within.setCell ?_ (by first | (simp; done) | (simp; omega)) _ | with_reducible refine Within.trans ?_ (by assumption)))⟩
      · by_cases x2 : 126 < x
        · have q1 : decide ((x : Int) < 32) = false := decide_eq_false (by omega)
          have q2 : decide ((x : Int) > 126) = true := decide_eq_true (by omega)
          have hno : noteOk x = false := by unfold noteOk; exact decide_eq_false (by omega)
          have HV := Lib.hid (HFA.out hno); clear hno
          go_wp2
          go_ret
          exact ⟨by (rw [HRV.out, if_neg (by rw [HV.out]; decide)] <;> rfl), (by repeat (first | with_reducible exact Within.refl _ | with_reducible assumption | with_reducible refine Within.alloc ?_ _ | with_reducible refine Within.drew ?_ | with_reducible refine Within.drewN ?_ _ | with_reducible refine Within.setCell ?_ (by first | (simp; done) | (simp; omega)) _ | with_reducible refine Within.trans ?_ (by assumption)))⟩
        · have q1 : decide ((x : Int) < 32) = false := decide_eq_false (by omega)
          have q2 : decide ((x : Int) > 126) = false := decide_eq_false (by omega)
          have hyes : noteOk x = true := by unfold noteOk; exact decide_eq_true (by omega)
          have HV := Lib.hid hyes; clear hyes
          go_wp2
          go_round
          case rel => exact ⟨k + 1, hlt, by go_num, by rw [HAS.out, HALL.out, HV.out]; rfl⟩
          case measure => simp [intOf]; omega
    · obtain rfl : k = d.length := by omega
      rw [List.take_of_length_le (Nat.le_refl _)] at hall
      have HV := Lib.hid hall; clear hall
      go_wp2
      go_ret
      exact ⟨by (rw [HRV.out, if_pos HV.out] <;> rfl), (by repeat (first | with_reducible exact Within.refl _ | with_reducible assumption | with_reducible refine Within.alloc ?_ _ | with_reducible refine Within.drew ?_ | with_reducible refine Within.drewN ?_ _ | with_reducible refine Within.setCell ?_ (by first | (simp; done) | (simp; omega)) _ | with_reducible refine Within.trans ?_ (by assumption)))⟩
theorem Rjcheck_any (k : Int) (A : Option Addr) (c : Nat) (d : List Nat) (hb : Bytes d) (hc : d.length ≤ c) (hl : d.length ≤ 1152921504606846976) (w : World) (hr : SlAt w A (u8v d)) : Calls Tryz.prog 34 #[.agg #[.int .i64 k, .slice A d.length c]] w fun e w' => e = .returned (.int .i64 (checkR pf k d)) ∧ Within w w' := by
  by_cases h : k < 1 ∨ 3 < k
  · rw [checkR_kind h]; exact Rjcheck_kind A c d k h w
  by_cases h2 : 1048576 < d.length
  · rw [checkR_long h h2]; exact Rjcheck_long A c d k h h2 hl w
  rcases (by omega : k = 1 ∨ k = 2 ∨ k = 3) with rfl | rfl | rfl
  · rw [checkR_read h2]
    by_cases hz : unpackE pf d = 0
    · rw [if_pos hz]; exact Rjcheck_read A c d hb hc h2 hz w hr
    · rw [if_neg hz]; exact Rjcheck_read_no A c d hb hc h2 hz w hr
  · rw [checkR_mark h2]; exact Rjcheck_mark A c d h2 w
  · rw [checkR_note h2]; exact Rjcheck_note A c d hb h2 w hr
end Go.Proofs.YtpmjlaiafgbjgaaGreatDoor
end

section
namespace Go.Proofs.YtpmjlaiafgbjgaaGreatDoor
open Go.RowKit
theorem run_append_own_one {P : Program} (w : World) (base : Nat) (t ty e : TypeId) (i : TypeInfo) (z : Value) (size bytes : Nat) (ht : P.underlying t = some (.slice e)) (hi : P.info? e = some i) (hz : i.zero = some z)
    (hsize : i.size = size) (hby : i.bytes = bytes) (hzs : z.cells.size = size) (hsz : 0 < size) (v : Value) (n : Nat) (xs : List Value) (hown : w.ownsRow base e size v n xs)
    (a : Addr) (c : Nat) (news : List Value) (hl : news.length = 1 * size) (hnews : ∀ j u, news[j]? = some u → w.cell? (a.add j) = some u) (h1 : ∀ u ∈ news, u.oneCell' = true)
    (h63 : n + 1 ≤ maxLen) (hfit : (n + 1) * bytes ≤ 140737488355328 ∨ (0 < n ∧ Builtin.nextslicecap (n + 1) n * bytes ≤ 281474976710656)) (hbase : base ≤ w.heap.size) :
    ∃ v' w', (Builtin.append_ #[t, t] ty #[v, .slice (some a) 1 c]).run P w = .ok v' w' ∧ w'.ownsRow base e size v' (n + 1) (xs ++ news) ∧ w.grownBy w' v.ownBlock ∧ (v'.ownBlock = v.ownBlock ∨ v'.ownBlock = some w.heap.size) := by
  rcases hfit with hfit | ⟨hn, hfit⟩
  · obtain ⟨v', w', k1, k2, k3, _, k5⟩ := run_append_own_at (P := P) w base t ty e i z size bytes ht hi hz hsize hby hzs hsz v n xs hown a 1 c news hl hnews h1 h63 hfit hbase
    exact ⟨v', w', k1, k2, k3, k5⟩
  have hown' := hown
  rcases hown.2 with ⟨_, h0⟩ | ⟨g, cap, cur, rfl, hbg, hg, hnc, hcm, hcs, htake⟩
  · omega
  by_cases hroom : n + 1 ≤ cap
  · obtain ⟨w', k1, k2, k3⟩ := run_append_fits (P := P) w base t ty e i size ht hi hsize g n cap xs hown' a 1 c news hl hnews h1 hroom
    exact ⟨_, w', k1, k2, k3, .inl rfl⟩
  · obtain rfl : cap = n := by omega
    have holds : ∀ j u, xs[j]? = some u → w.cell? ((⟨g, 0, none⟩ : Addr).add j) = some u := hown'.cells (g := g) rfl
    have hr := run_append_grow (P := P) w t ty e i z ht hi hz ⟨g, 0, none⟩ cap cap xs (by rw [hsize]; exact hown.1) holds a 1 c news (by rw [hsize]; exact hl) hnews (by omega) (by unfold maxLen at h63; omega) (by rw [hby]; exact hfit)
    have hge := grownCap_ge w (cap + 1) cap e
    have hcm' := grownCap_le_maxLen w (cap + 1) cap e h63
    have hlen : (xs ++ news).length = (cap + 1) * size := by rw [List.length_append, hown.1, hl, Nat.add_mul]
    refine ⟨_, _, hr, ⟨hlen, .inr ⟨w.heap.size, _, _, rfl, hbase, heap_alloc_new w.drew _, hge, hcm', ?_, ?_⟩⟩, ⟨rfl, rfl, rfl, by simp, fun k hk _ => Below.heap_alloc w.drew _ _ hk⟩, .inr rfl⟩
    · simp only [Array.size_append, List.size_toArray, size_zeroCells, hzs, hown.1, hl, ← Nat.add_mul]
      congr 1
      omega
    · simp only [Array.toList_append, List.append_assoc]
      rw [← List.append_assoc, ← hlen]
      exact List.take_left
theorem next_fits {n : Nat} (h : 256 ≤ n) (h2 : n ≤ 4398046511104) : Builtin.nextslicecap (n + 1) n * 40 ≤ 281474976710656 := by
  unfold Builtin.nextslicecap
  rw [if_neg (by omega), if_neg (by omega), growBy_four]
  rw [if_neg (by omega), if_pos (by omega)]
  omega
theorem run_app_rdb (w : World) (base : Nat) (v : Value) (rs : List Rd) (r : Rd) (u : Value) (hown : RdsO w base v rs) (hu : OwnF w base u r.vals) (hne : u.ownBlock = none ∨ u.ownBlock ≠ v.ownBlock) (hl : rs.length ≤ 4398046511104) (hbase : base ≤ w.heap.size) :
    ∃ v' w', (Builtin.append_ #[59, 59] 59 #[v, .slice (some ⟨w.heap.size, 0, none⟩) 1 1]).run Tryz.prog (w.alloc (.cells #[.int .i64 (r.sensor : Int), .int .u32 (r.seq : Int), .int .u32 (r.stamp : Int), u] 64)) = .ok v' w' ∧ RdsO w' base v' (rs ++ [r]) ∧ w.grownBy w' v.ownBlock ∧ (∀ j, v.ownBlock = some j → base ≤ j) := by
  by_cases hsm : (rs.length + 1) * 40 ≤ 140737488355328
  · exact run_app_rd w base v rs r u hown hu hne hsm hbase
  obtain ⟨ps, rfl, hrow, hps⟩ := hown
  rw [List.length_map] at hl hsm
  obtain ⟨i0, hi0, hz0, hz1, hz2⟩ := info_parts Tryz.infoRd
  have hin := (Within.refl w).alloc (.cells #[.int .i64 (r.sensor : Int), .int .u32 (r.seq : Int), .int .u32 (r.stamp : Int), u] 64)
  have hu1 : u.oneCell' = true := by obtain ⟨A, c, rfl, _⟩ := hu.form; rfl
  have hrow' := hrow.kept (within_grown hin) (by cases hv : v.ownBlock <;> simp)
  have hcell : ∀ (j : Nat) x, (rdC r u)[j]? = some x → (w.alloc (.cells #[.int .i64 (r.sensor : Int), .int .u32 (r.seq : Int), .int .u32 (r.stamp : Int), u] 64)).cell? ((⟨w.heap.size, 0, none⟩ : Addr).add j) = some x := fun j x hx => by
    rw [add_at, World.cell?_alloc_at _ _ _ _ rfl]
    unfold rdC at hx
    match j, hx with
    | 0, hx => exact hx
    | 1, hx => exact hx
    | 2, hx => exact hx
    | 3, hx => exact hx
    | j + 4, hx => simp at hx
  obtain ⟨v', w', h1, h2, h3, h5⟩ := run_append_own_one (P := Tryz.prog) (w := w.alloc (.cells #[.int .i64 (r.sensor : Int), .int .u32 (r.seq : Int), .int .u32 (r.stamp : Int), u] 64)) base 59 59 64 i0 (.agg #[.int .i64 0, .int .u32 0, .int .u32 0, .slice none 0 0]) 4 40 (by kernel_rfl) hi0 hz0 hz1 hz2 rfl (by decide) v ps.length (cellsR ps) hrow' ⟨w.heap.size, 0, none⟩ 1 (rdC r u) rfl hcell (rdC_one r hu1)
    (by unfold maxLen; omega) (.inr ⟨by omega, next_fits (by omega) hl⟩) (by simp; omega)
  have hlt := fun j hj => (hrow.lt j hj)
  refine ⟨v', w', h1, ⟨ps ++ [(r, u)], by rw [List.map_append]; rfl, ?_, ?_⟩, ?_, fun j hj => (hlt j hj).1⟩
  · have e : cellsR (ps ++ [(r, u)]) = cellsR ps ++ rdC r u := by unfold cellsR; rw [List.flatMap_append]; simp
    rw [List.length_append, e]; exact h2
  · have key : ∀ x xs, OwnF w base x xs → (x.ownBlock = none ∨ x.ownBlock ≠ v.ownBlock) → OwnF w' base x xs ∧ (x.ownBlock = none ∨ x.ownBlock ≠ v'.ownBlock) := fun x xs h hn => by
      refine ⟨(h.of hin).kept h3 hn, ?_⟩
      rcases hn with hn | hn
      · exact .inl hn
      · rcases h5 with h5 | h5
        · exact .inr (by rw [h5]; exact hn)
        · cases hx : x.ownBlock with
          | none => exact .inl rfl
          | some j =>
            refine .inr (fun e => ?_)
            rw [h5] at e
            have := (h.lt j hx).2
            have := Option.some.inj e
            simp at this
            omega
    intro p hp
    rcases List.mem_append.1 hp with h | h
    · exact key _ _ (hps p h).1 (hps p h).2
    · rw [List.mem_singleton] at h; rw [h]; exact key _ _ hu hne
  · exact ⟨h3.os, h3.tape, h3.output, Nat.le_trans (by simp) h3.size, fun k hk hn => (h3.block k (by simp; omega) hn).trans (Below.heap_alloc _ _ _ hk)⟩
end Go.Proofs.YtpmjlaiafgbjgaaGreatDoor
end

section
namespace Go.Proofs.YtpmjlaiafgbjgaaGreatDoor
open Go.RowKit
def ReadingP (s : Int) (q t : Nat) (l : List Nat) (w : World) (e : Ending) (w' : World) : Prop := ∃ (k : Int) (v : Value), e = .returned (.tuple #[.agg #[.int .i64 k, v], .int .i64 (checkV pf s l)]) ∧ k = (if checkV pf s l = 0 then 1 else 0) ∧ OwnB w' w.heap.size v (packL s q t l) ∧ Within w w'
theorem packL_no {s : Int} {q t : Nat} {l : List Nat} (h : checkV pf s l ≠ 0) : packL s q t l = [] := if_neg h
def isRd (r : IRec) : Bool := decide (r.1 = 1 ∧ checkR pf r.1 r.2 = 0)
def readingsV (rs : List IRec) : List Rd := (rs.filter isRd).map fun r => rdOf r.2
theorem readingsV_len (rs : List IRec) : (readingsV rs).length ≤ rs.length := by unfold readingsV; rw [List.length_map]; exact List.length_filter_le _ _
theorem readingsV_snoc (rs : List IRec) (r : IRec) : readingsV (rs ++ [r]) = if isRd r = true then readingsV rs ++ [rdOf r.2] else readingsV rs := by
  unfold readingsV
  rw [List.filter_append, List.map_append]
  by_cases h : isRd r = true
  · rw [if_pos h, List.filter_cons_of_pos h]; rfl
  · rw [if_neg h, List.filter_cons_of_neg (by simpa using h)]; simp
theorem isRd_unpack {r : IRec} (h : isRd r = true) : unpackE pf r.2 = 0 := by
  unfold isRd at h
  obtain ⟨h1, h2⟩ := of_decide_eq_true h
  rw [h1] at h2
  by_cases hl : 1048576 < r.2.length
  · rw [checkR_long (by decide) hl] at h2; cases h2
  · rw [checkR_read hl] at h2
    by_cases h0 : unpackE pf r.2 = 0
    · exact h0
    · rw [if_neg h0] at h2; cases h2
theorem RecAt.cells {w : World} {D : Nat → Prop} {A : Option Addr} {ls : List IRec} (h : RecAt w D A ls) {i : Nat} {r : IRec} (hi : ls[i]? = some r) : ∃ ad Dv cv, A = some ad ∧ ad.block < w.heap.size ∧ w.cell? (ad.add (i * 2)) = some (.int .i64 r.1) ∧ w.cell? ⟨(ad.add (i * 2)).block, (ad.add (i * 2)).off + 1, none⟩ = some (.slice Dv r.2.length cv) ∧ r.2.length ≤ cv ∧ SlAt w Dv (u8v r.2) ∧ Bytes r.2 := by
  obtain ⟨ad, Dv, cv, h1, h2, _, h4, h5, h6, h7, _, h9⟩ := h i r hi
  refine ⟨ad, Dv, cv, h1, h2, h4, ?_, h6, h7, h9⟩
  rw [← add_add, add_plain' _ (by decide)] at h5
  exact h5
theorem rds_take {rs : List IRec} {i : Nat} {r : IRec} (h : rs[i]? = some r) : rs.take i ++ [r] = rs.take (i + 1) := by
  obtain ⟨hi, rfl⟩ := List.getElem?_eq_some_iff.1 h
  rw [List.take_add_one, List.getElem?_eq_getElem hi]; rfl
set_option maxRecDepth 100000 in
set_option maxHeartbeats 1000000 in
theorem Reading_any (s : Int) (q t : Nat) (A : Option Addr) (c : Nat) (l : List Nat) (hq : q < 4294967296) (ht : t < 4294967296) (hw : Words64 l) (hl : l.length ≤ 1152921504606846976) (w : World) (hT : FmS w) (hr : SlAt w A (f64v l)) : Calls Tryz.prog 27 #[.agg #[.int .i64 s, .int .u32 (q : Int), .int .u32 (t : Int), .slice A l.length c]] w (ReadingP s q t l w) := by
  obtain ⟨W0, hW0⟩ : ∃ W, W = (w.alloc (.cells #[.int .i64 s, .int .u32 (q : Int), .int .u32 (t : Int), .slice A l.length c] 64)).alloc (.cells #[.int .i64 0, .slice none 0 0] 30) := ⟨_, rfl⟩
  have hI : Within w W0 := by rw [hW0]; exact ((Within.refl w).alloc _).alloc _
  have hs0 : W0.heap.size = w.heap.size + 2 := by rw [hW0]; simp
  have k0 : W0.cell? ⟨w.heap.size + 1, 0, none⟩ = some (.int .i64 0) := by rw [hW0]; simp
  have k1 : W0.cell? ⟨w.heap.size + 1, 1, none⟩ = some (.slice none 0 0) := by rw [hW0]; simp
  have kf0 : W0.frozen? ⟨w.heap.size + 1, 0, none⟩ = false := by rw [hW0]; simp
  have kf1 : W0.frozen? ⟨w.heap.size + 1, 1, none⟩ = false := by rw [hW0]; simp
  have ks : w.heap.size + 1 < W0.heap.size := by omega
  have PA := Lib.hid (Pack_any s q t A c l hq ht hw hl W0 (hT.of hI) (hr.of hI))
  obtain ⟨ck, hck⟩ : ∃ x, checkV pf s l = x := ⟨_, rfl⟩
  rw [hck] at PA
  obtain ⟨pl, hpl⟩ : ∃ x, packL s q t l = x := ⟨_, rfl⟩
  rw [hpl] at PA
  obtain ⟨n, hn⟩ : ∃ n, l.length = n := ⟨_, rfl⟩
  rw [hn] at hW0 PA ⊢
  have HCK := Lib.hid hck; have HPL := Lib.hid hpl; have HI := Lib.hid hI; have HS0 := Lib.hid hs0; clear hck hpl hn hI hT hr hw hl
  go_enter Tryz.func27, Tryz.ntmps27
  go_wp2_with fail
  rw [← hW0]
  clear hW0
  refine PA.out.mono ?_; rintro e1 w1 ⟨v1, rfl, hO1, h1⟩
  clear PA
  have k0 := (h1.cells _ _ ks).trans k0
  have k1 := (h1.cells _ _ ks).trans k1
  have kf0 := (h1.frozens _ _ ks).trans kf0
  have kf1 := (h1.frozens _ _ ks).trans kf1
  have ks := Nat.lt_of_lt_of_le ks h1.size
  obtain ⟨A1, c1, rfl, _, _, _⟩ := hO1.form
  obtain ⟨m, hm⟩ : ∃ m, pl.length = m := ⟨_, rfl⟩
  rw [hm] at hO1 ⊢
  clear hm
  have hin := HI.out.trans h1
  have HO1 := Lib.hid hO1; have HIN := Lib.hid hin; clear h1 hO1 hin
  by_cases h0 : ck = 0
  · subst h0
    go_wp2
    have hK : But (w.heap.size + 1) w1 ((w1.setCell ⟨w.heap.size + 1, 0, none⟩ (.int .i64 1)).setCell ⟨w.heap.size + 1, 1, none⟩ (.slice A1 m c1)) := ((But.refl (w.heap.size + 1) w1).set (p := ⟨w.heap.size + 1, 0, none⟩) (.inl rfl) _).set (p := ⟨w.heap.size + 1, 1, none⟩) (.inl rfl) _
    have hI9 : Within w ((w1.setCell ⟨w.heap.size + 1, 0, none⟩ (.int .i64 1)).setCell ⟨w.heap.size + 1, 1, none⟩ (.slice A1 m c1)) := (HIN.out.setCell (Nat.le_succ _) _).setCell (Nat.le_succ _) _
    have hO9 := HO1.out.but hK (by have := HS0.out; omega)
    refine bodyPost_ret (v := .tuple #[.agg #[.int .i64 1, .slice A1 m c1], .int .i64 0]) (by simp [results, Tryz.results27, go_sem, k0, k1, kf0, kf1, ks]) rfl ⟨1, _, by rw [HCK.out], by rw [HCK.out, if_pos rfl], by rw [HPL.out]; exact hO9.less (by have := HS0.out; omega), hI9⟩
  · have v1 : (ck != 0) = true := bne_iff_ne.2 h0
    go_wp2
    have hI9 : Within w ((w1.setCell ⟨w.heap.size + 1, 0, none⟩ (.int .i64 0)).setCell ⟨w.heap.size + 1, 1, none⟩ (.slice none 0 0)) := (HIN.out.setCell (Nat.le_succ _) _).setCell (Nat.le_succ _) _
    refine bodyPost_ret (v := .tuple #[.agg #[.int .i64 0, .slice none 0 0], .int .i64 ck]) (by simp [results, Tryz.results27, go_sem, k0, k1, kf0, kf1, ks]) rfl ⟨0, _, by rw [HCK.out], by rw [HCK.out, if_neg h0], by rw [packL_no (by rw [HCK.out]; exact h0)]; exact OwnB.nil_ _ _, hI9⟩
theorem rds_lt {w : World} {base : Nat} {v : Value} {rs : List Rd} (h : RdsO w base v rs) : ∀ j, v.ownBlock = some j → j < w.heap.size := by
  obtain ⟨ps, _, h2, _⟩ := h
  exact fun j hj => (h2.lt j hj).2
set_option maxRecDepth 100000 in
set_option maxHeartbeats 1000000 in
theorem Readings_any (D : Nat → Prop) (A : Option Addr) (c : Nat) (rs : List IRec) (hle : rs.length ≤ 4398046511104) (hsz : ∀ r ∈ rs, r.2.length ≤ 1152921504606846976) (w : World) (hT : FmS w) (hr : RecAt w D A rs) : Calls Tryz.prog 23 #[.slice A rs.length c] w fun e w' => ∃ v, e = .returned v ∧ RdsO w' w.heap.size v (readingsV rs) ∧ Within w w' := by
  obtain ⟨n, hn⟩ : ∃ n, rs.length = n := ⟨_, rfl⟩
  have HN := Lib.hid hn
  rw [hn] at hle ⊢
  clear hn
  have HT := Lib.hid hT
  have HR := Lib.hid hr; clear hr hT
  go_enter Tryz.func23, Tryz.ntmps23
  go_wp2
  go_loopw [3, 10] (fun ov iv wr => ∃ i : Nat, i ≤ n ∧ iv = .int .i64 (i : Int) ∧ RdsO wr w.heap.size ov (readingsV (rs.take i)) ∧ Within w wr) (fun _ iv _ => n - (intOf iv).toNat)
  case atStart => exact ⟨0, by omega, rfl, RdsO.nil_ _ _, Within.refl _⟩
  case round =>
    obtain ⟨i, hi, rfl, hO, hin⟩ := hrel
    by_cases hlt : i < n
    · have hlt' : i < rs.length := by rw [HN.out]; exact hlt
      obtain ⟨r, hr⟩ : ∃ r, rs[i]? = some r := ⟨_, List.getElem?_eq_getElem hlt'⟩
      obtain ⟨ad, Dv, cv, rfl, hb, c0, c1, hcv, hs1, hby⟩ := (HR.out.of hin).cells hr
      have b1 : (i : Int) < (n : Int) := by omega
      have hsn := readingsV_snoc (rs.take i) r
      rw [rds_take hr] at hsn
      have hrl := readingsV_len (rs.take i)
      have hrl2 : (rs.take i).length ≤ i := by rw [List.length_take]; omega
      have hun : isRd r = true → unpackE pf r.2 = 0 := isRd_unpack
      have hid : isRd r = decide (r.1 = 1 ∧ checkR pf r.1 r.2 = 0) := rfl
      obtain ⟨k, d⟩ := r
      simp only at c0 c1 hcv hs1 hby hsn hun hid
      obtain ⟨nd, hnd⟩ : ∃ n, d.length = n := ⟨_, rfl⟩
      have hdl : nd ≤ 1152921504606846976 := by rw [← hnd]; exact hsz _ (List.mem_of_getElem? hr)
      have JC := Lib.hid (fun W (h : Within wr W) => jcheck_any k Dv cv d hby hcv (by rw [hnd]; exact hdl) W (HT.out.of (hin.trans h)) (hs1.of h))
      have UN := Lib.hid (fun W (h : Within wr W) => Unpack_any Dv cv d hby (by rw [hnd]; exact hdl) hcv W (HT.out.of (hin.trans h)) (hs1.of h))
      rw [hnd] at c1 hcv JC UN
      obtain ⟨ck, hck⟩ : ∃ x, checkR pf k d = x := ⟨_, rfl⟩
      rw [hck] at JC hid
      obtain ⟨er, her⟩ : ∃ x, unpackE pf d = x := ⟨_, rfl⟩
      rw [her] at UN hun
      obtain ⟨rd, hrd⟩ : ∃ x, rdOf d = x := ⟨_, rfl⟩
      rw [hrd] at UN hsn
      have HSN := Lib.hid hsn; have HIN := Lib.hid hin; have HO := Lib.hid hO; have HUN := Lib.hid hun; have HID := Lib.hid hid; have HRL := Lib.hid (Nat.le_trans hrl hrl2); have HB := Lib.hid hb; clear hsn hin hO hr hby hs1 hck her hrd hun hid hrl hrl2 hnd hlt' hdl hcv
      obtain ⟨Ao, co, rfl, _, _⟩ := HO.out.form
      by_cases hk : k = 1
      · subst hk
        have e1 : ((1 : Int) != 1) = false := by decide
        obtain ⟨W2, hW2⟩ : ∃ W, W = wr.alloc (.cells #[.int .i64 1, .slice Dv nd cv] 30) := ⟨_, rfl⟩
        have i2 : Within wr W2 := by rw [hW2]; exact (Within.refl wr).alloc _
        have z0 : W2.cell? ⟨wr.heap.size, 0, none⟩ = some (.int .i64 1) := by rw [hW2]; simp
        have z1 : W2.cell? ⟨wr.heap.size, 1, none⟩ = some (.slice Dv nd cv) := by rw [hW2]; simp
        have zs : wr.heap.size < W2.heap.size := by rw [hW2]; simp
        have E2 := Lib.hid hW2; have I2 := Lib.hid i2; clear hW2 i2
        go_wp2_with fail
        rw [← E2.out]
        refine (JC.out W2 I2.out).mono ?_; rintro e3 w3 ⟨rfl, h3⟩
        have z0 := (h3.cells _ _ zs).trans z0
        have z1 := (h3.cells _ _ zs).trans z1
        have zs := Nat.lt_of_lt_of_le zs h3.size
        have I3 := Lib.hid (I2.out.trans h3)
        clear h3
        by_cases h0 : ck = 0
        · subst h0
          obtain rfl : er = 0 := HUN.out (by rw [HID.out]; simp)
          go_wp2_with fail
          refine (UN.out w3 I3.out).mono ?_; rintro e4 w4 ⟨v4, rfl, hO4, h4⟩
          obtain ⟨A4, c4, rfl, _, _, _⟩ := hO4.form
          obtain ⟨m4, hm4⟩ : ∃ m, rd.vals.length = m := ⟨_, rfl⟩
          rw [hm4] at hO4 ⊢
          clear hm4
          obtain ⟨W5, hW5⟩ : ∃ W, W = w4.alloc (.cells #[.int .i64 (rd.sensor : Int), .int .u32 (rd.seq : Int), .int .u32 (rd.stamp : Int), .slice A4 m4 c4] 64) := ⟨_, rfl⟩
          have i5 : Within w4 W5 := by rw [hW5]; exact (Within.refl w4).alloc _
          have hX5 : Within wr W5 := I3.out.trans (h4.trans i5)
          have hne : (Value.slice A4 m4 c4).ownBlock = none ∨ (Value.slice A4 m4 c4).ownBlock ≠ (Value.slice Ao (readingsV (rs.take i)).length co).ownBlock := by
            cases ho : (Value.slice A4 m4 c4).ownBlock with
            | none => exact .inl rfl
            | some j => exact .inr (fun e => by have h1 := (hO4.lt j ho).1; have h2 := (rds_lt HO.out j e.symm); have := I3.out.size; omega)
          obtain ⟨v6, w6, hrun6, hO6, hg6, hb6⟩ := run_app_rdb W5 w.heap.size (.slice Ao (readingsV (rs.take i)).length co) (readingsV (rs.take i)) rd (.slice A4 m4 c4) (HO.out.of hX5) ((hO4.less (Nat.le_trans HIN.out.size I3.out.size)).of i5) hne (by have := HRL.out; omega) (HIN.out.trans hX5).size
          have hX6 : Within w w6 := Below.grown (HIN.out.trans hX5) hg6 (HIN.out.trans hX5).size hb6
          rw [show readingsV (rs.take i) ++ [rd] = readingsV (rs.take (i + 1)) by rw [HSN.out, if_pos (by rw [HID.out]; simp)]] at hO6
          obtain ⟨A6, c6, rfl, _, _⟩ := hO6.form
          have x0 : W5.cell? ⟨w4.heap.size, 0, none⟩ = some (.int .i64 (rd.sensor : Int)) := by rw [hW5]; simp
          have x1 : W5.cell? ⟨w4.heap.size, 1, none⟩ = some (.int .u32 (rd.seq : Int)) := by rw [hW5]; simp
          have x2 : W5.cell? ⟨w4.heap.size, 2, none⟩ = some (.int .u32 (rd.stamp : Int)) := by rw [hW5]; simp
          have x3 : W5.cell? ⟨w4.heap.size, 3, none⟩ = some (.slice A4 m4 c4) := by rw [hW5]; simp
          have xs : w4.heap.size < W5.heap.size := by rw [hW5]; simp
          obtain ⟨mo, hmo⟩ : ∃ m, (readingsV (rs.take i)).length = m := ⟨_, rfl⟩
          rw [hmo] at hrun6 ⊢
          clear hmo hne
          rw [hW5] at hrun6
          simp only [World.size_alloc] at hrun6
          have RUN6 := Lib.hid hrun6; have HO6 := Lib.hid hO6; have HX6 := Lib.hid hX6; have E5 := Lib.hid hW5; clear hrun6 hO6 hX6 hg6 hb6 hW5 h4 i5 hX5 hO4
          go_wp2_with (at_builtin; refine wpList_append_run rfl (.tmp 30) (.tmp 32) 59 rfl _ _ rfl rfl RUN6.out ?_)
          go_roundw
          case rel => exact ⟨i + 1, hlt, by go_num, HO6.out, HX6.out⟩
          case measure => simp [intOf]; omega
        · have v1 : (ck != 0) = true := bne_iff_ne.2 h0
          have hno : ¬ decide ((1 : Int) = 1 ∧ ck = 0) = true := fun h => h0 (of_decide_eq_true h).2
          have HNO := Lib.hid hno; clear hno
          go_wp2
          go_roundw
          case rel => exact ⟨i + 1, hlt, by go_num, by rw [HSN.out, if_neg (by rw [HID.out]; exact HNO.out)]; exact HO.out.of I3.out, HIN.out.trans I3.out⟩
          case measure => simp [intOf]; omega
      · have e1 : (k != 1) = true := bne_iff_ne.2 hk
        have hno : ¬ decide (k = 1 ∧ ck = 0) = true := fun h => hk (of_decide_eq_true h).1
        have HNO := Lib.hid hno; clear hno hk
        go_wp2
        go_roundw
        case rel => exact ⟨i + 1, hlt, by go_num, by rw [HSN.out, if_neg (by rw [HID.out]; exact HNO.out)]; exact HO.out.of ((Within.refl wr).alloc _), HIN.out.alloc _⟩
        case measure => simp [intOf]; omega
    · obtain rfl : i = n := by omega
      rw [← HN.out, List.take_length] at hO
      obtain ⟨Ao, co, rfl, _, _⟩ := hO.form
      have HO := Lib.hid hO; have HIN := Lib.hid hin; clear hO hin
      go_wp2
      go_ret
      exact ⟨_, rfl, HO.out, HIN.out⟩
set_option maxRecDepth 100000 in
set_option maxHeartbeats 1000000 in
theorem Rreadings_any (D : Nat → Prop) (A : Option Addr) (c : Nat) (rs : List IRec) (hle : rs.length ≤ 4398046511104) (hsz : ∀ r ∈ rs, r.2.length ≤ 1152921504606846976) (w : World) (hr : RecAt w D A rs) : Calls Tryz.prog 25 #[.slice A rs.length c] w fun e w' => ∃ v, e = .returned v ∧ RdsO w' w.heap.size v (readingsV rs) ∧ Within w w' := by
  obtain ⟨n, hn⟩ : ∃ n, rs.length = n := ⟨_, rfl⟩
  have HN := Lib.hid hn
  rw [hn] at hle ⊢
  clear hn
  have HR := Lib.hid hr; clear hr
  go_enter Tryz.func25, Tryz.ntmps25
  go_wp2
  go_loopw [3, 4] (fun ov iv wr => ∃ i : Nat, i ≤ n ∧ iv = .int .i64 (i : Int) ∧ RdsO wr w.heap.size ov (readingsV (rs.take i)) ∧ Within w wr) (fun _ iv _ => n - (intOf iv).toNat)
  case atStart => exact ⟨0, by omega, rfl, RdsO.nil_ _ _, Within.refl _⟩
  case round =>
    obtain ⟨i, hi, rfl, hO, hin⟩ := hrel
    by_cases hlt : i < n
    · have hlt' : i < rs.length := by rw [HN.out]; exact hlt
      obtain ⟨r, hr⟩ : ∃ r, rs[i]? = some r := ⟨_, List.getElem?_eq_getElem hlt'⟩
      obtain ⟨ad, Dv, cv, rfl, hb, c0, c1, hcv, hs1, hby⟩ := (HR.out.of hin).cells hr
      have b1 : (i : Int) < (n : Int) := by omega
      have hsn := readingsV_snoc (rs.take i) r
      rw [rds_take hr] at hsn
      have hrl := readingsV_len (rs.take i)
      have hrl2 : (rs.take i).length ≤ i := by rw [List.length_take]; omega
      have hun : isRd r = true → unpackE pf r.2 = 0 := isRd_unpack
      have hid : isRd r = decide (r.1 = 1 ∧ checkR pf r.1 r.2 = 0) := rfl
      obtain ⟨k, d⟩ := r
      simp only at c0 c1 hcv hs1 hby hsn hun hid
      obtain ⟨nd, hnd⟩ : ∃ n, d.length = n := ⟨_, rfl⟩
      have hdl : nd ≤ 1152921504606846976 := by rw [← hnd]; exact hsz _ (List.mem_of_getElem? hr)
      have JC := Lib.hid (fun W (h : Within wr W) => Rjcheck_any k Dv cv d hby hcv (by rw [hnd]; exact hdl) W (hs1.of h))
      have UN := Lib.hid (fun W (h : Within wr W) => Runpack_any Dv cv d hby (by rw [hnd]; exact hdl) hcv W (hs1.of h))
      rw [hnd] at c1 hcv JC UN
      obtain ⟨ck, hck⟩ : ∃ x, checkR pf k d = x := ⟨_, rfl⟩
      rw [hck] at JC hid
      obtain ⟨er, her⟩ : ∃ x, unpackE pf d = x := ⟨_, rfl⟩
      rw [her] at UN hun
      obtain ⟨rd, hrd⟩ : ∃ x, rdOf d = x := ⟨_, rfl⟩
      rw [hrd] at UN hsn
      have HSN := Lib.hid hsn; have HIN := Lib.hid hin; have HO := Lib.hid hO; have HUN := Lib.hid hun; have HID := Lib.hid hid; have HRL := Lib.hid (Nat.le_trans hrl hrl2); have HB := Lib.hid hb; clear hsn hin hO hr hby hs1 hck her hrd hun hid hrl hrl2 hnd hlt' hdl hcv
      obtain ⟨Ao, co, rfl, _, _⟩ := HO.out.form
      by_cases hk : k = 1
      · subst hk
        have I0 := HB.out
        go_wp2_with fail
        refine (JC.out wr (Within.refl wr)).mono ?_; rintro e3 w3 ⟨rfl, h3⟩
        have c0 := (h3.cell (p := ad.add (i * 2)) (by rw [add_block]; exact I0)).trans c0
        have c1 := (h3.cell (p := ⟨(ad.add (i * 2)).block, (ad.add (i * 2)).off + 1, none⟩) (by rw [add_block]; exact I0)).trans c1
        have hb3 : ad.block < w3.heap.size := Nat.lt_of_lt_of_le I0 h3.size
        have I3 := Lib.hid h3
        clear h3
        by_cases h0 : ck = 0
        · subst h0
          obtain rfl : er = 0 := HUN.out (by rw [HID.out]; simp)
          go_wp2_with fail
          refine (UN.out w3 I3.out).mono ?_; rintro e4 w4 ⟨v4, rfl, hO4, h4⟩
          obtain ⟨A4, c4, rfl, _, _, _⟩ := hO4.form
          obtain ⟨m4, hm4⟩ : ∃ m, rd.vals.length = m := ⟨_, rfl⟩
          rw [hm4] at hO4 ⊢
          clear hm4
          obtain ⟨W5, hW5⟩ : ∃ W, W = w4.alloc (.cells #[.int .i64 (rd.sensor : Int), .int .u32 (rd.seq : Int), .int .u32 (rd.stamp : Int), .slice A4 m4 c4] 64) := ⟨_, rfl⟩
          have i5 : Within w4 W5 := by rw [hW5]; exact (Within.refl w4).alloc _
          have hX5 : Within wr W5 := I3.out.trans (h4.trans i5)
          have hne : (Value.slice A4 m4 c4).ownBlock = none ∨ (Value.slice A4 m4 c4).ownBlock ≠ (Value.slice Ao (readingsV (rs.take i)).length co).ownBlock := by
            cases ho : (Value.slice A4 m4 c4).ownBlock with
            | none => exact .inl rfl
            | some j => exact .inr (fun e => by have h1 := (hO4.lt j ho).1; have h2 := (rds_lt HO.out j e.symm); have := I3.out.size; omega)
          obtain ⟨v6, w6, hrun6, hO6, hg6, hb6⟩ := run_app_rdb W5 w.heap.size (.slice Ao (readingsV (rs.take i)).length co) (readingsV (rs.take i)) rd (.slice A4 m4 c4) (HO.out.of hX5) ((hO4.less (Nat.le_trans HIN.out.size I3.out.size)).of i5) hne (by have := HRL.out; omega) (HIN.out.trans hX5).size
          have hX6 : Within w w6 := Below.grown (HIN.out.trans hX5) hg6 (HIN.out.trans hX5).size hb6
          rw [show readingsV (rs.take i) ++ [rd] = readingsV (rs.take (i + 1)) by rw [HSN.out, if_pos (by rw [HID.out]; simp)]] at hO6
          obtain ⟨A6, c6, rfl, _, _⟩ := hO6.form
          have x0 : W5.cell? ⟨w4.heap.size, 0, none⟩ = some (.int .i64 (rd.sensor : Int)) := by rw [hW5]; simp
          have x1 : W5.cell? ⟨w4.heap.size, 1, none⟩ = some (.int .u32 (rd.seq : Int)) := by rw [hW5]; simp
          have x2 : W5.cell? ⟨w4.heap.size, 2, none⟩ = some (.int .u32 (rd.stamp : Int)) := by rw [hW5]; simp
          have x3 : W5.cell? ⟨w4.heap.size, 3, none⟩ = some (.slice A4 m4 c4) := by rw [hW5]; simp
          have xs : w4.heap.size < W5.heap.size := by rw [hW5]; simp
          obtain ⟨mo, hmo⟩ : ∃ m, (readingsV (rs.take i)).length = m := ⟨_, rfl⟩
          rw [hmo] at hrun6 ⊢
          clear hmo hne
          rw [hW5] at hrun6
          simp only [World.size_alloc] at hrun6
          have RUN6 := Lib.hid hrun6; have HO6 := Lib.hid hO6; have HX6 := Lib.hid hX6; have E5 := Lib.hid hW5; clear hrun6 hO6 hX6 hg6 hb6 hW5 h4 i5 hX5 hO4
          go_wp2_with (at_builtin; refine wpList_append_run rfl (.tmp 36) (.tmp 38) 59 rfl _ _ rfl rfl RUN6.out ?_)
          go_roundw
          case rel => exact ⟨i + 1, hlt, by go_num, HO6.out, HX6.out⟩
          case measure => simp [intOf]; omega
        · have v1 : (ck == 0) = false := beq_eq_false_iff_ne.2 h0
          have hno : ¬ decide ((1 : Int) = 1 ∧ ck = 0) = true := fun h => h0 (of_decide_eq_true h).2
          have HNO := Lib.hid hno; clear hno
          go_wp2
          go_roundw
          case rel => exact ⟨i + 1, hlt, by go_num, by rw [HSN.out, if_neg (by rw [HID.out]; exact HNO.out)]; exact HO.out.of I3.out, HIN.out.trans I3.out⟩
          case measure => simp [intOf]; omega
      · have e1 : (k == 1) = false := beq_eq_false_iff_ne.2 hk
        have hno : ¬ decide (k = 1 ∧ ck = 0) = true := fun h => hk (of_decide_eq_true h).1
        have HNO := Lib.hid hno; clear hno hk
        go_wp2
        go_roundw
        case rel => exact ⟨i + 1, hlt, by go_num, by rw [HSN.out, if_neg (by rw [HID.out]; exact HNO.out)]; exact HO.out.of (Within.refl wr), HIN.out.trans (Within.refl wr)⟩
        case measure => simp [intOf]; omega
    · obtain rfl : i = n := by omega
      rw [← HN.out, List.take_length] at hO
      obtain ⟨Ao, co, rfl, _, _⟩ := hO.form
      have HO := Lib.hid hO; have HIN := Lib.hid hin; clear hO hin
      go_wp2
      go_ret
      exact ⟨_, rfl, HO.out, HIN.out⟩
end Go.Proofs.YtpmjlaiafgbjgaaGreatDoor
end
