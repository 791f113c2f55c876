/- Packets: the reference reads frames: walks. -/
import Derived.Test.YtmpcnhiklpahnaaDoorPk9
namespace Go.Proofs.YtmpcnhiklpahnaaDoor
open Go.RowKit

set_option maxRecDepth 100000 in
set_option maxHeartbeats 1000000 in
theorem Runpack_near (ad : Addr) (c m K : Nat) (l : List Nat) (hm : 12 ≤ m ∧ m ≤ 60) (hc : m + 4 ≤ c) (RH : Hid (∀ w, SlAt w (some ad) (u8v l) → Calls Tryd.prog 48 #[.slice (some ad) (m + 4) c] w fun e w' => e = .returned (.bool true) ∧ w = w')) (RS : Hid (∀ w, Calls Tryd.prog 49 #[.int .u8 (K : Int)] w fun e w' => e = .returned (.int .i64 ((m + 4 : Nat) : Int)) ∧ w = w')) (h3 : ∀ w, SlAt w (some ad) (u8v l) → w.cell? ⟨ad.block, ad.off + 3, none⟩ = some (.int .u8 (K : Int))) (G C : Nat) (hC : C < 4294967296) (GT : Hid (∀ w, SlAt w (some ad) (u8v l) → Calls Tryd.prog 50 #[.slice (some (ad.add m)) 4 (c - m)] w fun e w' => e = .returned (.int .u64 (G : Int)) ∧ w = w')) (SM : Hid (∀ w, SlAt w (some ad) (u8v l) → Calls Tryd.prog 20 #[.slice (some ad) m c] w fun e w' => e = .returned (.int .u32 (C : Int)) ∧ w = w')) (S q t : Nat) (hS : S < 256) (hq : q < 4294967296) (ht : t < 4294967296) (GQ : Hid (∀ w, SlAt w (some ad) (u8v l) → Calls Tryd.prog 50 #[.slice (some ⟨ad.block, ad.off + 4, none⟩) 4 (c - 4)] w fun e w' => e = .returned (.int .u64 (q : Int)) ∧ w = w')) (GT4 : Hid (∀ w, SlAt w (some ad) (u8v l) → Calls Tryd.prog 50 #[.slice (some ⟨ad.block, ad.off + 8, none⟩) 4 (c - 8)] w fun e w' => e = .returned (.int .u64 (t : Int)) ∧ w = w')) (h2 : ∀ w, SlAt w (some ad) (u8v l) → w.cell? ⟨ad.block, ad.off + 2, none⟩ = some (.int .u8 (S : Int))) (n : Nat) (hn : n ≤ 6) (hmn : m = 12 + 4 * n) (hK : decide (128 ≤ (K : Int)) = false) (d : List Nat) (hd : d = (l.drop 12).take (4 * n)) (hbd : Bytes d) (hdl : d.length = 4 * n) (hbl : Bytes l) (hll : l.length = m + 4) (fb sb : Bool) (hfb : (rdVals pf false n d).all finD = fb) (hsb : (rdVals pf false n d).all isSD = sb) (er : Int) (her : er = if fb = false ∨ false = sb then 211 else 0) (rd : Rd) (hrd : rd = if er = 0 then ⟨S, q, t, rdVals pf false n d⟩ else noRd) (hs : ((C : Int) != (G : Int)) = false) (w : World) (hr : SlAt w (some ad) (u8v l)) : Calls Tryd.prog 24 #[.slice (some ad) (m + 4) c] w (RetR w rd er) := by
  have HFB := Lib.hid hfb; have HSB := Lib.hid hsb; have HER := Lib.hid her; have HBD := Lib.hid hbd; have HDL := Lib.hid hdl; have HD := Lib.hid hd; have HRD := Lib.hid hrd; have HBL := Lib.hid hbl; have HLL := Lib.hid hll; clear hrd hfb hsb her hbd hdl hd hbl hll
  have HR := Lib.hid hr; clear hr
  have HH3 := Lib.hid h3; clear h3
  obtain ⟨m1, m2⟩ := hm
  have hn0 : (((m + 4 : Nat) : Int) != ((m + 4 : Nat) : Int)) = false := by rw [bne_eq_false_iff_eq]
  have hn1 : ((m : Int) + 4 != (m : Int) + 4) = false := by rw [bne_eq_false_iff_eq]
  have d4 : decide ((m : Int) + 4 < 4) = false := decide_eq_false (by omega)
  have l3 : (3 : Int) < (m : Int) + 4 := by omega
  have w4 : IntKind.i64.wrap (m : Int) = (m : Int) := by rw [IntKind.wrap_i64]; omega
  have hcm : ¬ c = m := by omega
  have hle : (m : Int) ≤ (m : Int) + 4 := by omega
  have hmc : m ≤ c := by omega
  have gC : IntKind.u64.wrap (C : Int) = (C : Int) := by rw [IntKind.wrap_u64]; omega
  clear hC
  have w32q : IntKind.u32.wrap (q : Int) = (q : Int) := by rw [IntKind.wrap_u32]; omega
  have w32t : IntKind.u32.wrap (t : Int) = (t : Int) := by rw [IntKind.wrap_u32]; omega
  have wS : IntKind.i64.wrap (S : Int) = (S : Int) := by rw [IntKind.wrap_i64]; omega
  have hc4 : ¬ c = 4 := by omega
  have hc8 : ¬ c = 8 := by omega
  have hc12 : ¬ c = 12 := by omega
  have l8 : (8 : Int) ≤ (c : Int) := by omega
  have l12 : (12 : Int) ≤ (c : Int) := by omega
  have l2 : (2 : Int) < (m : Int) + 4 := by omega
  have l12m : (12 : Int) ≤ (m : Int) := by omega
  have HH := Lib.hid h2; have HMN := Lib.hid hmn; clear h2 hmn
  have HS := Lib.hid (And.intro hS (And.intro hq ht)); clear hS hq ht
  go_enter Tryd.func24, Tryd.ntmps24
  go_wp2_with fail
  have hw1 := HR.out.of ((Within.refl w).alloc (.cells #[.int .i64 0, .int .u32 0, .int .u32 0, .slice none 0 0] 29))
  have k3 := HH3.out _ hw1
  refine (RH.out _ hw1).mono ?_; rintro e1 w1 ⟨rfl, rfl⟩
  go_wp2_with fail
  refine (RS.out _).mono ?_; rintro e2 w2 ⟨rfl, rfl⟩
  clear k3
  go_wp2
  refine wp_region_within (by kernel_rfl) (by kernel_rfl) ?_
  repeat
    apply wpq_step rfl
    · intro wq hCq
      have hsl := HR.out.of ((((Within.refl w).alloc _).trans hCq))
      go_simp
      first | rfl | exact hCq.same (GT.out _ hsl) | exact hCq.same (SM.out _ hsl) | (trace_state; fail)
    try simp only [Act.put, List.setIfInBounds_toArray, List.set_cons_zero, List.set_cons_succ]
  refine wpQuiet_nil ?_
  intro w3 hb3
  have q0 : w3.cell? ⟨w.heap.size, 0, none⟩ = some (.int .i64 0) := (hb3.cells _ _ (by simp)).trans (by simp)
  have q1 : w3.cell? ⟨w.heap.size, 1, none⟩ = some (.int .u32 0) := (hb3.cells _ _ (by simp)).trans (by simp)
  have q2 : w3.cell? ⟨w.heap.size, 2, none⟩ = some (.int .u32 0) := (hb3.cells _ _ (by simp)).trans (by simp)
  have q3 : w3.cell? ⟨w.heap.size, 3, none⟩ = some (.slice none 0 0) := (hb3.cells _ _ (by simp)).trans (by simp)
  have qf : ∀ o, w3.frozen? ⟨w.heap.size, o, none⟩ = false := fun o => (hb3.frozens _ _ (by simp)).trans (by simp)
  have qz : w.heap.size < w3.heap.size := World.block_lt_of_cell? _ _ q0
  go_upto_region 6 with fail
  go_cut [5] (fun s5 wx => s5 = .pointer (some ⟨w3.heap.size, 0, none⟩) ∧ (wx.cell? ⟨w3.heap.size, 0, none⟩ = some (.int .i64 (S : Int)) ∧ wx.cell? ⟨w3.heap.size, 1, none⟩ = some (.int .u32 (q : Int)) ∧ wx.cell? ⟨w3.heap.size, 2, none⟩ = some (.int .u32 (t : Int)) ∧ wx.cell? ⟨w3.heap.size, 3, none⟩ = some (.slice none 0 0) ∧ (∀ o, wx.frozen? ⟨w3.heap.size, o, none⟩ = false) ∧ Within w3 wx))
  case first =>
    have h2 := HH.out
    refine wp_region_schG (fun W => SlAt W (some ad) (u8v l) ∧ W.heap.size = w3.heap.size ∧ Within w3 W) 14 (.firm 0 (.firm 1 (.firm 2 (.firm 3 (.firm 4 (.firm 5 (.firm 8 (.firm 9 (.two 6 (.firm 7 (.two 10 (.firm 11 (.firm 12 (.one 13 (.one 14 .nil)))) 13 (.one 10 (.firm 11 (.firm 12 (.one 14 .nil)))))) 13 (.one 6 (.firm 7 (.one 10 (.firm 11 (.firm 12 (.one 14 .nil))))))))))))))) (by kernel_rfl) (by kernel_rfl) ⟨HR.out.of ((Within.refl w).alloc _ |>.trans hb3), rfl, Within.refl _⟩ ?_
    rintro w0 ⟨hs0, hz1, hw0⟩
    try simp only [Act.put, List.setIfInBounds_toArray, List.set_cons_zero, List.set_cons_succ]
    apply sch_firm rfl rfl (by repeat (first | with_reducible exact Within.refl _ | with_reducible assumption | with_reducible refine Within.alloc ?_ _ | with_reducible refine Within.drew ?_ | with_reducible refine Within.drewN ?_ _ | with_reducible refine Within.setCell ?_ (by first | (simp; done) | (simp; omega)) _ | with_reducible refine Within.trans ?_ (by assumption)))
    · intro wq hq
      have hcq := hq.cells
      have hcell := h2 _ (hs0.of hq)
      clear hq
      go_simp
      first | rfl | (trace_state; fail)
    try simp only [Act.put, List.setIfInBounds_toArray, List.set_cons_zero, List.set_cons_succ]
    apply sch_firm rfl rfl (by repeat (first | with_reducible exact Within.refl _ | with_reducible assumption | with_reducible refine Within.alloc ?_ _ | with_reducible refine Within.drew ?_ | with_reducible refine Within.drewN ?_ _ | with_reducible refine Within.setCell ?_ (by first | (simp; done) | (simp; omega)) _ | with_reducible refine Within.trans ?_ (by assumption)))
    · intro wq hq
      have hcq := hq.cells
      have hcell := h2 _ (hs0.of hq)
      clear hq
      go_simp
      first | rfl | (trace_state; fail)
    try simp only [Act.put, List.setIfInBounds_toArray, List.set_cons_zero, List.set_cons_succ]
    apply sch_firm rfl rfl (by repeat (first | with_reducible exact Within.refl _ | with_reducible assumption | with_reducible refine Within.alloc ?_ _ | with_reducible refine Within.drew ?_ | with_reducible refine Within.drewN ?_ _ | with_reducible refine Within.setCell ?_ (by first | (simp; done) | (simp; omega)) _ | with_reducible refine Within.trans ?_ (by assumption)))
    · intro wq hq
      have hcq := hq.cells
      have hcell := h2 _ (hs0.of hq)
      clear hq
      go_simp
      first | rfl | (trace_state; fail)
    try simp only [Act.put, List.setIfInBounds_toArray, List.set_cons_zero, List.set_cons_succ]
    apply sch_firm rfl rfl (by repeat (first | with_reducible exact Within.refl _ | with_reducible assumption | with_reducible refine Within.alloc ?_ _ | with_reducible refine Within.drew ?_ | with_reducible refine Within.drewN ?_ _ | with_reducible refine Within.setCell ?_ (by first | (simp; done) | (simp; omega)) _ | with_reducible refine Within.trans ?_ (by assumption)))
    · intro wq hq
      have hcq := hq.cells
      have hcell := h2 _ (hs0.of hq)
      clear hq
      go_simp
      first | rfl | (trace_state; fail)
    try simp only [Act.put, List.setIfInBounds_toArray, List.set_cons_zero, List.set_cons_succ]
    apply sch_firm rfl rfl (by repeat (first | with_reducible exact Within.refl _ | with_reducible assumption | with_reducible refine Within.alloc ?_ _ | with_reducible refine Within.drew ?_ | with_reducible refine Within.drewN ?_ _ | with_reducible refine Within.setCell ?_ (by first | (simp; done) | (simp; omega)) _ | with_reducible refine Within.trans ?_ (by assumption)))
    · intro wq hq
      have hcq := hq.cells
      have hcell := h2 _ (hs0.of hq)
      clear hq
      go_simp
      first | rfl | (trace_state; fail)
    try simp only [Act.put, List.setIfInBounds_toArray, List.set_cons_zero, List.set_cons_succ]
    apply sch_firm rfl rfl (by repeat (first | with_reducible exact Within.refl _ | with_reducible assumption | with_reducible refine Within.alloc ?_ _ | with_reducible refine Within.drew ?_ | with_reducible refine Within.drewN ?_ _ | with_reducible refine Within.setCell ?_ (by first | (simp; done) | (simp; omega)) _ | with_reducible refine Within.trans ?_ (by assumption)))
    · intro wq hq
      have hcq := hq.cells
      have hcell := h2 _ (hs0.of hq)
      clear hq
      go_simp
      first | rfl | (trace_state; fail)
    try simp only [Act.put, List.setIfInBounds_toArray, List.set_cons_zero, List.set_cons_succ]
    apply sch_firm rfl rfl (by repeat (first | with_reducible exact Within.refl _ | with_reducible assumption | with_reducible refine Within.alloc ?_ _ | with_reducible refine Within.drew ?_ | with_reducible refine Within.drewN ?_ _ | with_reducible refine Within.setCell ?_ (by first | (simp; done) | (simp; omega)) _ | with_reducible refine Within.trans ?_ (by assumption)))
    · intro wq hq
      have hcq := hq.cells
      have hcell := h2 _ (hs0.of hq)
      clear hq
      go_simp
      first | rfl | (trace_state; fail)
    try simp only [Act.put, List.setIfInBounds_toArray, List.set_cons_zero, List.set_cons_succ]
    apply sch_firm rfl rfl (by repeat (first | with_reducible exact Within.refl _ | with_reducible assumption | with_reducible refine Within.alloc ?_ _ | with_reducible refine Within.drew ?_ | with_reducible refine Within.drewN ?_ _ | with_reducible refine Within.setCell ?_ (by first | (simp; done) | (simp; omega)) _ | with_reducible refine Within.trans ?_ (by assumption)))
    · intro wq hq
      have hcq := hq.cells
      have hcell := h2 _ (hs0.of hq)
      clear hq
      go_simp
      first | rfl | (trace_state; fail)
    try simp only [Act.put, List.setIfInBounds_toArray, List.set_cons_zero, List.set_cons_succ]
    refine sch_two rfl rfl rfl rfl (fun K hK => ?_) (fun K hK => ?_)
    · go_simp
      refine (GQ.out _ (by first | exact hs0 | exact hs0.of ((Within.refl _).drew) | exact hs0.of (((Within.refl _).drew).alloc _))).mono ?_; rintro e4 w4 ⟨rfl, rfl⟩
      refine hK _ _ (by repeat (first | with_reducible exact Within.refl _ | with_reducible assumption | with_reducible refine Within.alloc ?_ _ | with_reducible refine Within.drew ?_ | with_reducible refine Within.drewN ?_ _ | with_reducible refine Within.setCell ?_ (by first | (simp; done) | (simp; omega)) _ | with_reducible refine Within.trans ?_ (by assumption))) ?_
      clear hK K
      try simp only [Act.put, List.setIfInBounds_toArray, List.set_cons_zero, List.set_cons_succ]
      apply sch_firm rfl rfl (by repeat (first | with_reducible exact Within.refl _ | with_reducible assumption | with_reducible refine Within.alloc ?_ _ | with_reducible refine Within.drew ?_ | with_reducible refine Within.drewN ?_ _ | with_reducible refine Within.setCell ?_ (by first | (simp; done) | (simp; omega)) _ | with_reducible refine Within.trans ?_ (by assumption)))
      · intro wq hq
        have hcq := hq.cells
        have hcell := h2 _ (hs0.of hq)
        clear hq
        go_simp
        first | rfl | (trace_state; fail)
      try simp only [Act.put, List.setIfInBounds_toArray, List.set_cons_zero, List.set_cons_succ]
      refine sch_two rfl rfl rfl rfl (fun K hK => ?_) (fun K hK => ?_)
      · go_simp
        refine (GT4.out _ (by first | exact hs0 | exact hs0.of ((Within.refl _).drew) | exact hs0.of (((Within.refl _).drew).alloc _))).mono ?_; rintro e5 w5 ⟨rfl, rfl⟩
        refine hK _ _ (by repeat (first | with_reducible exact Within.refl _ | with_reducible assumption | with_reducible refine Within.alloc ?_ _ | with_reducible refine Within.drew ?_ | with_reducible refine Within.drewN ?_ _ | with_reducible refine Within.setCell ?_ (by first | (simp; done) | (simp; omega)) _ | with_reducible refine Within.trans ?_ (by assumption))) ?_
        clear hK K
        try simp only [Act.put, List.setIfInBounds_toArray, List.set_cons_zero, List.set_cons_succ]
        apply sch_firm rfl rfl (by repeat (first | with_reducible exact Within.refl _ | with_reducible assumption | with_reducible refine Within.alloc ?_ _ | with_reducible refine Within.drew ?_ | with_reducible refine Within.drewN ?_ _ | with_reducible refine Within.setCell ?_ (by first | (simp; done) | (simp; omega)) _ | with_reducible refine Within.trans ?_ (by assumption)))
        · intro wq hq
          have hcq := hq.cells
          have hcell := h2 _ (hs0.of hq)
          clear hq
          go_simp
          first | rfl | (trace_state; fail)
        try simp only [Act.put, List.setIfInBounds_toArray, List.set_cons_zero, List.set_cons_succ]
        apply sch_firm rfl rfl (by repeat (first | with_reducible exact Within.refl _ | with_reducible assumption | with_reducible refine Within.alloc ?_ _ | with_reducible refine Within.drew ?_ | with_reducible refine Within.drewN ?_ _ | with_reducible refine Within.setCell ?_ (by first | (simp; done) | (simp; omega)) _ | with_reducible refine Within.trans ?_ (by assumption)))
        · intro wq hq
          have hcq := hq.cells
          have hcell := h2 _ (hs0.of hq)
          clear hq
          go_simp
          first | rfl | (trace_state; fail)
        try simp only [Act.put, List.setIfInBounds_toArray, List.set_cons_zero, List.set_cons_succ]
        refine sch_one rfl rfl (fun K hK => ?_)
        go_simp
        refine hK _ _ (fun _ => (by repeat (first | with_reducible exact Within.refl _ | with_reducible assumption | with_reducible refine Within.alloc ?_ _ | with_reducible refine Within.drew ?_ | with_reducible refine Within.drewN ?_ _ | with_reducible refine Within.setCell ?_ (by first | (simp; done) | (simp; omega)) _ | with_reducible refine Within.trans ?_ (by assumption)))) ?_
        clear hK K
        try simp only [Act.put, List.setIfInBounds_toArray, List.set_cons_zero, List.set_cons_succ]
        refine sch_one rfl rfl (fun K hK => ?_)
        go_simp
        refine hK _ _ (fun h => absurd h (by decide)) ?_
        clear hK K
        try simp only [Act.put, List.setIfInBounds_toArray, List.set_cons_zero, List.set_cons_succ]
        refine sch_nil ?_
        go_wp2_with fail
        go_meet
        exact ⟨rfl, by go_simp, by go_simp, by go_simp, by go_simp, fun o => by go_simp, (by repeat (first | with_reducible exact Within.refl _ | with_reducible assumption | with_reducible refine Within.alloc ?_ _ | with_reducible refine Within.drew ?_ | with_reducible refine Within.drewN ?_ _ | with_reducible refine Within.setCell ?_ (by first | (simp; done) | (simp; omega)) _ | with_reducible refine Within.trans ?_ (by assumption)))⟩
      · go_simp
        refine hK _ _ (by repeat (first | with_reducible exact Within.refl _ | with_reducible assumption | with_reducible refine Within.alloc ?_ _ | with_reducible refine Within.drew ?_ | with_reducible refine Within.drewN ?_ _ | with_reducible refine Within.setCell ?_ (by first | (simp; done) | (simp; omega)) _ | with_reducible refine Within.trans ?_ (by assumption))) ?_
        clear hK K
        try simp only [Act.put, List.setIfInBounds_toArray, List.set_cons_zero, List.set_cons_succ]
        refine sch_one rfl rfl (fun K hK => ?_)
        go_simp
        refine (GT4.out _ (by first | exact hs0 | exact hs0.of ((Within.refl _).drew) | exact hs0.of (((Within.refl _).drew).alloc _))).mono ?_; rintro e5 w5 ⟨rfl, rfl⟩
        refine hK _ _ (fun _ => (by repeat (first | with_reducible exact Within.refl _ | with_reducible assumption | with_reducible refine Within.alloc ?_ _ | with_reducible refine Within.drew ?_ | with_reducible refine Within.drewN ?_ _ | with_reducible refine Within.setCell ?_ (by first | (simp; done) | (simp; omega)) _ | with_reducible refine Within.trans ?_ (by assumption)))) ?_
        clear hK K
        try simp only [Act.put, List.setIfInBounds_toArray, List.set_cons_zero, List.set_cons_succ]
        apply sch_firm rfl rfl (by repeat (first | with_reducible exact Within.refl _ | with_reducible assumption | with_reducible refine Within.alloc ?_ _ | with_reducible refine Within.drew ?_ | with_reducible refine Within.drewN ?_ _ | with_reducible refine Within.setCell ?_ (by first | (simp; done) | (simp; omega)) _ | with_reducible refine Within.trans ?_ (by assumption)))
        · intro wq hq
          have hcq := hq.cells
          have hcell := h2 _ (hs0.of hq)
          clear hq
          go_simp
          first | rfl | (trace_state; fail)
        try simp only [Act.put, List.setIfInBounds_toArray, List.set_cons_zero, List.set_cons_succ]
        apply sch_firm rfl rfl (by repeat (first | with_reducible exact Within.refl _ | with_reducible assumption | with_reducible refine Within.alloc ?_ _ | with_reducible refine Within.drew ?_ | with_reducible refine Within.drewN ?_ _ | with_reducible refine Within.setCell ?_ (by first | (simp; done) | (simp; omega)) _ | with_reducible refine Within.trans ?_ (by assumption)))
        · intro wq hq
          have hcq := hq.cells
          have hcell := h2 _ (hs0.of hq)
          clear hq
          go_simp
          first | rfl | (trace_state; fail)
        try simp only [Act.put, List.setIfInBounds_toArray, List.set_cons_zero, List.set_cons_succ]
        refine sch_one rfl rfl (fun K hK => ?_)
        go_simp
        refine hK _ _ (fun h => absurd h (by decide)) ?_
        clear hK K
        try simp only [Act.put, List.setIfInBounds_toArray, List.set_cons_zero, List.set_cons_succ]
        refine sch_nil ?_
        go_wp2_with fail
        go_meet
        exact ⟨rfl, by go_simp, by go_simp, by go_simp, by go_simp, fun o => by go_simp, (by repeat (first | with_reducible exact Within.refl _ | with_reducible assumption | with_reducible refine Within.alloc ?_ _ | with_reducible refine Within.drew ?_ | with_reducible refine Within.drewN ?_ _ | with_reducible refine Within.setCell ?_ (by first | (simp; done) | (simp; omega)) _ | with_reducible refine Within.trans ?_ (by assumption)))⟩
    · go_simp
      refine hK _ _ (by repeat (first | with_reducible exact Within.refl _ | with_reducible assumption | with_reducible refine Within.alloc ?_ _ | with_reducible refine Within.drew ?_ | with_reducible refine Within.drewN ?_ _ | with_reducible refine Within.setCell ?_ (by first | (simp; done) | (simp; omega)) _ | with_reducible refine Within.trans ?_ (by assumption))) ?_
      clear hK K
      try simp only [Act.put, List.setIfInBounds_toArray, List.set_cons_zero, List.set_cons_succ]
      refine sch_one rfl rfl (fun K hK => ?_)
      go_simp
      refine (GQ.out _ (by first | exact hs0 | exact hs0.of ((Within.refl _).drew) | exact hs0.of (((Within.refl _).drew).alloc _))).mono ?_; rintro e4 w4 ⟨rfl, rfl⟩
      refine hK _ _ (fun _ => (by repeat (first | with_reducible exact Within.refl _ | with_reducible assumption | with_reducible refine Within.alloc ?_ _ | with_reducible refine Within.drew ?_ | with_reducible refine Within.drewN ?_ _ | with_reducible refine Within.setCell ?_ (by first | (simp; done) | (simp; omega)) _ | with_reducible refine Within.trans ?_ (by assumption)))) ?_
      clear hK K
      try simp only [Act.put, List.setIfInBounds_toArray, List.set_cons_zero, List.set_cons_succ]
      apply sch_firm rfl rfl (by repeat (first | with_reducible exact Within.refl _ | with_reducible assumption | with_reducible refine Within.alloc ?_ _ | with_reducible refine Within.drew ?_ | with_reducible refine Within.drewN ?_ _ | with_reducible refine Within.setCell ?_ (by first | (simp; done) | (simp; omega)) _ | with_reducible refine Within.trans ?_ (by assumption)))
      · intro wq hq
        have hcq := hq.cells
        have hcell := h2 _ (hs0.of hq)
        clear hq
        go_simp
        first | rfl | (trace_state; fail)
      try simp only [Act.put, List.setIfInBounds_toArray, List.set_cons_zero, List.set_cons_succ]
      refine sch_one rfl rfl (fun K hK => ?_)
      go_simp
      refine (GT4.out _ (by first | exact hs0 | exact hs0.of ((Within.refl _).drew) | exact hs0.of (((Within.refl _).drew).alloc _))).mono ?_; rintro e5 w5 ⟨rfl, rfl⟩
      refine hK _ _ (fun _ => (by repeat (first | with_reducible exact Within.refl _ | with_reducible assumption | with_reducible refine Within.alloc ?_ _ | with_reducible refine Within.drew ?_ | with_reducible refine Within.drewN ?_ _ | with_reducible refine Within.setCell ?_ (by first | (simp; done) | (simp; omega)) _ | with_reducible refine Within.trans ?_ (by assumption)))) ?_
      clear hK K
      try simp only [Act.put, List.setIfInBounds_toArray, List.set_cons_zero, List.set_cons_succ]
      apply sch_firm rfl rfl (by repeat (first | with_reducible exact Within.refl _ | with_reducible assumption | with_reducible refine Within.alloc ?_ _ | with_reducible refine Within.drew ?_ | with_reducible refine Within.drewN ?_ _ | with_reducible refine Within.setCell ?_ (by first | (simp; done) | (simp; omega)) _ | with_reducible refine Within.trans ?_ (by assumption)))
      · intro wq hq
        have hcq := hq.cells
        have hcell := h2 _ (hs0.of hq)
        clear hq
        go_simp
        first | rfl | (trace_state; fail)
      try simp only [Act.put, List.setIfInBounds_toArray, List.set_cons_zero, List.set_cons_succ]
      apply sch_firm rfl rfl (by repeat (first | with_reducible exact Within.refl _ | with_reducible assumption | with_reducible refine Within.alloc ?_ _ | with_reducible refine Within.drew ?_ | with_reducible refine Within.drewN ?_ _ | with_reducible refine Within.setCell ?_ (by first | (simp; done) | (simp; omega)) _ | with_reducible refine Within.trans ?_ (by assumption)))
      · intro wq hq
        have hcq := hq.cells
        have hcell := h2 _ (hs0.of hq)
        clear hq
        go_simp
        first | rfl | (trace_state; fail)
      try simp only [Act.put, List.setIfInBounds_toArray, List.set_cons_zero, List.set_cons_succ]
      refine sch_one rfl rfl (fun K hK => ?_)
      go_simp
      refine hK _ _ (fun h => absurd h (by decide)) ?_
      clear hK K
      try simp only [Act.put, List.setIfInBounds_toArray, List.set_cons_zero, List.set_cons_succ]
      refine sch_nil ?_
      go_wp2_with fail
      go_meet
      exact ⟨rfl, by go_simp, by go_simp, by go_simp, by go_simp, fun o => by go_simp, (by repeat (first | with_reducible exact Within.refl _ | with_reducible assumption | with_reducible refine Within.alloc ?_ _ | with_reducible refine Within.drew ?_ | with_reducible refine Within.drewN ?_ _ | with_reducible refine Within.setCell ?_ (by first | (simp; done) | (simp; omega)) _ | with_reducible refine Within.trans ?_ (by assumption)))⟩
  case rest =>
    obtain ⟨rfl, r0, r1, r2, r3, rf, hw6⟩ := hcut
    have hsl3 : SlAt w3 (some ad) (u8v l) := HR.out.of ((Within.refl w).alloc _ |>.trans hb3)
    have k3 := HH3.out _ (hsl3.of hw6)
    go_wp2
    go_loopw [7] (fun vv wr => RunRel w3 d false n S q t vv wr) (fun vv _ => upTo m vv)
    case atStart => exact ⟨0, 12, [], .slice none 0 0, Nat.zero_le _, rfl, rfl, rfl, (fun x hx => by cases hx), OwnF.nil_ _ _, r0, r1, r2, r3, rf, hw6⟩
    case round =>
      obtain ⟨k, a, vs, sl, hk, rfl, ha, hvs, hwv, hown, p0, p1, p2, p3, pf', hin⟩ := hrel
      have HVS := Lib.hid hvs; have HWV := Lib.hid hwv; clear hvs hwv
      have hvl : vs.length = k := by have := congrArg List.length HVS.out; rwa [List.length_map, List.length_map, rdVals_len] at this
      have hRz : w3.heap.size < wr.heap.size := World.block_lt_of_cell? wr _ p0
      obtain ⟨As, cs, rfl, _, hsat, _⟩ := hown.form
      have HOW := Lib.hid hown; have HVL := Lib.hid hvl; clear hown hvl
      by_cases hlt : k < n
      · have ha12 : a = 12 + 4 * k := by rw [ha]; rfl
        have hmn' := HMN.out
        have dm : decide ((a : Int) < (m : Int)) = true := decide_eq_true (by omega)
        have dn : a < m := by simpa using of_decide_eq_true dm
        have a8 : IntKind.i64.wrap ((a : Int) + 4) = (a : Int) + 4 := by rw [IntKind.wrap_i64]; omega
        have ac : a + 4 ≤ c := by omega
        have aci : (a : Int) + 4 ≤ (c : Int) := by omega
        have aa : (a : Int) ≤ (a : Int) + 4 := by omega
        have ca : ¬ c = a := by omega
        have al : a ≤ c := by omega
        have am : (a : Int) + 4 ≤ (m : Int) + 4 := by omega
        have ai0 : (0 : Int) ≤ (a : Int) := by omega
        have ai8 : (0 : Int) ≤ (a : Int) + 4 := by omega
        obtain ⟨X, hX⟩ : ∃ X, X = leVal ((l.drop a).take 4) := ⟨_, rfl⟩
        have hsl3' : SlAt wr (some ad) (u8v l) := hsl3.of hin
        have GV : Calls Tryd.prog 50 #[.slice (some (ad.add a)) 4 (c - a)] wr fun e w' => e = .returned (.int .u64 (X : Int)) ∧ wr = w' := by
          rw [hX]; exact Rtake_at ad c a 4 l HBL.out (by decide) (by rw [HLL.out]; omega) _ wr hsl3'
        have HGV := Lib.hid GV; clear GV
        have hX2 : X < 2 ^ 32 := by rw [hX]; have := leVal_lt ((HBL.out.drop a).take 4); rwa [show ((l.drop a).take 4).length = 4 by rw [List.length_take, List.length_drop, HLL.out]; omega] at this
        have hXd : X = leVal ((d.drop (stp false * k)).take 4) := by
          rw [hX, HD.out, List.drop_take, List.drop_drop, List.take_take, ha]
          rw [Nat.min_eq_left (by show 4 ≤ 4 * n - 4 * k; omega)]
        have hX2' : X < 4294967296 := by omega
        have hcv : ∀ w, (convert 78 75 (.float .f32 X)).run Tryd.prog w = .ok (.float .f64 (wideV X w)) (wideW X w) := fun w => conv_wide (by kernel_rfl) (by kernel_rfl) X hX2' w
        have gX : IntKind.u32.wrap (X : Int) = (X : Int) := by rw [IntKind.wrap_u32]; omega
        clear hX2'
        have hWz : w3.heap.size + 1 ≤ (wideW X wr).heap.size := Nat.le_trans hRz (wideW_in wr).size
        have hWW : Below (w3.heap.size + 1) wr (wideW X wr) := (wideW_in wr).mono hRz
        obtain ⟨v1, w1, hrun, hown1, hbl2⟩ := run_app_float (wideW X wr) (w3.heap.size + 1) _ vs (wideV X wr) (HOW.out.of (wideW_in _)) (by have := HVL.out; omega) hWz
        have hbl1 : Below (w3.heap.size + 1) wr w1 := Below.trans hWW hbl2
        obtain ⟨A1, c1, hv1, _⟩ := hown1.form
        obtain ⟨N1, hN1⟩ : ∃ N1, N1 = (vs ++ [(wideV X wr)]).length := ⟨_, rfl⟩
        rw [← hN1] at hv1
        subst hv1
        have RUN := Lib.hid hrun; clear hrun
        have pw3 : (wideW X wr).cell? ⟨w3.heap.size, 3, none⟩ = some (.slice As vs.length cs) := ((wideW_in wr).cells _ _ hRz).trans p3
        have g0 : w1.cell? ⟨w3.heap.size, 0, none⟩ = some (.int .i64 (S : Int)) := (hbl1.cell (p := ⟨w3.heap.size, 0, none⟩) (Nat.lt_succ_self _)).trans p0
        have g1 : w1.cell? ⟨w3.heap.size, 1, none⟩ = some (.int .u32 (q : Int)) := (hbl1.cell (p := ⟨w3.heap.size, 1, none⟩) (Nat.lt_succ_self _)).trans p1
        have g2 : w1.cell? ⟨w3.heap.size, 2, none⟩ = some (.int .u32 (t : Int)) := (hbl1.cell (p := ⟨w3.heap.size, 2, none⟩) (Nat.lt_succ_self _)).trans p2
        have g3 : w1.cell? ⟨w3.heap.size, 3, none⟩ = some (.slice As vs.length cs) := (hbl1.cell (p := ⟨w3.heap.size, 3, none⟩) (Nat.lt_succ_self _)).trans p3
        have gf : ∀ o, w1.frozen? ⟨w3.heap.size, o, none⟩ = false := fun o => (hbl1.frozen (p := ⟨w3.heap.size, o, none⟩) (Nat.lt_succ_self _)).trans (pf' o)
        have HA := Lib.hid ha12; have HX2 := Lib.hid hX2; have HXD := Lib.hid hXd; have HN1 := Lib.hid hN1; have HN1 := Lib.hid hN1; clear ha ha12 hX2 hXd hX hmn' hN1
        go_wp2_with fail
        refine HGV.out.mono ?_; rintro e5 w5 ⟨rfl, rfl⟩
        go_wp2_with (at_builtin; refine wpList_append_run rfl (.tmp 83) (.tmp 85) 27 rfl _ _ rfl rfl RUN.out ?_)
        go_roundw
        case rel =>
          have hN1 := HN1.out; rw [List.length_append, List.length_singleton] at hN1; subst hN1
          have hXc : canonD (wideV X wr) = canonD (if false = true then leVal ((d.drop (stp false * k)).take 8) else pf.wb (leVal ((d.drop (stp false * k)).take 4))) := by rw [wideV_canon (by have := HX2.out; omega), if_neg (by decide), ← HXD.out]; exact wide_canon.symm
          have hst := RunRel.step (a := a + 4) hlt (by rw [HA.out]; show 12 + 4 * k + 4 = 12 + 4 * (k + 1); omega) HVS.out hXc (wideV_lt (by have := HX2.out; omega) _) HWV.out hown1 g0 g1 g2 (by rw [g3]; rfl) gf (show Within w3 w1 from Below.trans hin (hbl1.mono (Nat.le_succ _)))
          simpa using hst
        case measure =>
          have := of_decide_eq_true dm; simp only [upTo]; omega
      · have hkn : k = n := by omega
        subst hkn
        have HA := Lib.hid ha; clear ha
        have dm : decide ((a : Int) < (m : Int)) = false := decide_eq_false (by have := HA.out; have := HMN.out; simp only [stp, Bool.false_eq_true, if_false] at *; omega)
        have dn : ¬ a < m := by simpa using of_decide_eq_false dm
        have dk : m ≤ a := by omega
        have hfe : vs.all finD = fb := (map_all (fun _ _ h => finD_same h) HVS.out).trans HFB.out
        have hse : vs.all isSD = sb := (map_all (fun _ _ h => isSD_same h) HVS.out).trans HSB.out
        have hWw : Within w wr := (((Within.refl w).alloc _).trans hb3).trans hin
        have FN := RallFinite_any As cs vs HWV.out (by have := HVL.out; omega) wr hsat
        rw [hfe] at FN
        have SGL : Hid (∀ wx, Within wr wx → Calls Tryd.prog 17 #[.slice As vs.length cs] wx fun e w' => e = .returned (.bool sb) ∧ Within wx w') := Lib.hid (fun wx hx => by
          have := Rsingles_any As cs vs HWV.out (by have := HVL.out; omega) wx (hsat.of hx)
          rwa [hse] at this)
        have HFN := Lib.hid FN; clear FN
        have hqz3 : w.heap.size < w3.heap.size + 1 := Nat.lt_succ_of_lt qz
        have qzr : w.heap.size < wr.heap.size := Nat.lt_of_lt_of_le qz hin.size
        have qr0 : wr.cell? ⟨w.heap.size, 0, none⟩ = some (.int .i64 0) := (hin.cells _ _ qz).trans q0
        have qr1 : wr.cell? ⟨w.heap.size, 1, none⟩ = some (.int .u32 0) := (hin.cells _ _ qz).trans q1
        have qr2 : wr.cell? ⟨w.heap.size, 2, none⟩ = some (.int .u32 0) := (hin.cells _ _ qz).trans q2
        have qr3 : wr.cell? ⟨w.heap.size, 3, none⟩ = some (.slice none 0 0) := (hin.cells _ _ qz).trans q3
        have qrf : ∀ o, wr.frozen? ⟨w.heap.size, o, none⟩ = false := fun o => (hin.frozens _ _ qz).trans (qf o)
        have HFE := Lib.hid hfe; clear hfe hse
        go_wp2_with fail
        refine HFN.out.mono ?_; rintro e5 w5 ⟨rfl, hw5⟩
        have p50 : w5.cell? ⟨w3.heap.size, 0, none⟩ = some (.int .i64 (S : Int)) := (hw5.cells _ _ hRz).trans p0
        have p51 : w5.cell? ⟨w3.heap.size, 1, none⟩ = some (.int .u32 (q : Int)) := (hw5.cells _ _ hRz).trans p1
        have p52 : w5.cell? ⟨w3.heap.size, 2, none⟩ = some (.int .u32 (t : Int)) := (hw5.cells _ _ hRz).trans p2
        have p53 : w5.cell? ⟨w3.heap.size, 3, none⟩ = some (.slice As vs.length cs) := (hw5.cells _ _ hRz).trans p3
        have z50 : w5.cell? ⟨w.heap.size, 0, none⟩ = some (.int .i64 0) := (hw5.cells _ _ qzr).trans qr0
        have z51 : w5.cell? ⟨w.heap.size, 1, none⟩ = some (.int .u32 0) := (hw5.cells _ _ qzr).trans qr1
        have z52 : w5.cell? ⟨w.heap.size, 2, none⟩ = some (.int .u32 0) := (hw5.cells _ _ qzr).trans qr2
        have z53 : w5.cell? ⟨w.heap.size, 3, none⟩ = some (.slice none 0 0) := (hw5.cells _ _ qzr).trans qr3
        have z5f : ∀ o, w5.frozen? ⟨w.heap.size, o, none⟩ = false := fun o => (hw5.frozens _ _ qzr).trans (qrf o)
        have hRz5 : w3.heap.size < w5.heap.size := Nat.lt_of_lt_of_le hRz hw5.size
        have qz5 : w.heap.size < w5.heap.size := Nat.lt_of_lt_of_le qzr hw5.size
        have hW5 : Within w w5 := hWw.trans hw5
        cases fb
        · go_wp2
          have E := HER.out; have R := HRD.out
          simp at E; subst E; simp at R; subst R
          refine bodyPost_ret (v := .tuple #[.agg #[.int .i64 0, .int .u32 0, .int .u32 0, .slice none 0 0], .int .i64 211]) (by simp [results, Tryd.results24, go_sem, z50, z51, z52, z53]) rfl ⟨_, rfl, OwnF.nil_ _ _, (by repeat (first | with_reducible exact hW5 | with_reducible refine Within.setCell ?_ (Nat.le_refl _) _))⟩
        · go_wp2_with fail
          refine (SGL.out _ hw5).mono ?_; rintro e6 w6 ⟨rfl, hw6⟩
          have p60 : w6.cell? ⟨w3.heap.size, 0, none⟩ = some (.int .i64 (S : Int)) := (hw6.cells _ _ hRz5).trans p50
          have p61 : w6.cell? ⟨w3.heap.size, 1, none⟩ = some (.int .u32 (q : Int)) := (hw6.cells _ _ hRz5).trans p51
          have p62 : w6.cell? ⟨w3.heap.size, 2, none⟩ = some (.int .u32 (t : Int)) := (hw6.cells _ _ hRz5).trans p52
          have p63 : w6.cell? ⟨w3.heap.size, 3, none⟩ = some (.slice As vs.length cs) := (hw6.cells _ _ hRz5).trans p53
          have z60 : w6.cell? ⟨w.heap.size, 0, none⟩ = some (.int .i64 0) := (hw6.cells _ _ qz5).trans z50
          have z61 : w6.cell? ⟨w.heap.size, 1, none⟩ = some (.int .u32 0) := (hw6.cells _ _ qz5).trans z51
          have z62 : w6.cell? ⟨w.heap.size, 2, none⟩ = some (.int .u32 0) := (hw6.cells _ _ qz5).trans z52
          have z63 : w6.cell? ⟨w.heap.size, 3, none⟩ = some (.slice none 0 0) := (hw6.cells _ _ qz5).trans z53
          have z6f : ∀ o, w6.frozen? ⟨w.heap.size, o, none⟩ = false := fun o => (hw6.frozens _ _ qz5).trans (z5f o)
          have qz6 : w.heap.size < w6.heap.size := Nat.lt_of_lt_of_le qz5 hw6.size
          have hW6 : Within w w6 := hW5.trans hw6
          have HOW6 := Lib.hid ((HOW.out.of hw5).of hw6)
          cases sb
          · go_wp2
            have E := HER.out; have R := HRD.out
            simp at E; subst E; simp at R; subst R
            refine bodyPost_ret (v := .tuple #[.agg #[.int .i64 0, .int .u32 0, .int .u32 0, .slice none 0 0], .int .i64 211]) (by simp [results, Tryd.results24, go_sem, z60, z61, z62, z63]) rfl ⟨_, rfl, OwnF.nil_ _ _, (by repeat (first | with_reducible exact hW6 | with_reducible refine Within.setCell ?_ (Nat.le_refl _) _))⟩
          · go_wp2
            have E := HER.out; have R := HRD.out
            simp at E; subst E; simp at R; subst R
            refine bodyPost_ret (v := .tuple #[.agg #[.int .i64 (S : Int), .int .u32 (q : Int), .int .u32 (t : Int), .slice As vs.length cs], .int .i64 0]) (by simp [results, Tryd.results24, go_sem, z60, z61, z62, z63]) rfl ⟨_, rfl, ?_, (by repeat (first | with_reducible exact hW6 | with_reducible refine Within.setCell ?_ (Nat.le_refl _) _))⟩
            have hvv : vs = rdVals pf false k d := map_fin HVS.out HFE.out HFB.out
            rw [show (Rd.mk S q t (rdVals pf false k d)).vals = vs from hvv.symm]
            refine OwnF.less (base := w3.heap.size + 1) ?_ (Nat.le_of_lt hqz3)
            repeat (first | with_reducible exact HOW6.out | with_reducible refine OwnF.set ?_ hqz3 _)

end Go.Proofs.YtmpcnhiklpahnaaDoor
