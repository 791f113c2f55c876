/- Packets: frames read: walks. -/
import Derived.Test.YtmpcnhiklpahnaaDoorPk6
namespace Go.Proofs.YtmpcnhiklpahnaaDoor
open Go.RowKit

set_option maxRecDepth 100000 in
set_option maxHeartbeats 1000000 in
theorem Unpack_near (ad : Addr) (c m : Nat) (l : List Nat) (hm : 12 ≤ m ∧ m ≤ 60) (hc : m + 4 ≤ c) (SZ : Hid (∀ w, SlAt w (some ad) (u8v l) → Calls Tryd.prog 44 #[.slice (some ad) (m + 4) c] w fun e w' => e = .returned (.tuple #[.int .i64 ((m + 4 : Nat) : Int), .bool true]) ∧ w = w')) (G C : Nat) (hC : C < 4294967296) (GT : Hid (∀ w, SlAt w (some ad) (u8v l) → Calls Tryd.prog 45 #[.slice (some (ad.add m)) 4 (c - m)] w fun e w' => e = .returned (.int .u64 (G : Int)) ∧ w = w')) (SM : Hid (∀ w, SlAt w (some ad) (u8v l) → Calls Tryd.prog 19 #[.slice (some ad) m c] w fun e w' => e = .returned (.int .u32 (C : Int)) ∧ w = w')) (S q t : Nat) (hS : S < 256) (hq : q < 4294967296) (ht : t < 4294967296) (GQ : Hid (∀ w, SlAt w (some ad) (u8v l) → Calls Tryd.prog 45 #[.slice (some ⟨ad.block, ad.off + 4, none⟩) 4 (c - 4)] w fun e w' => e = .returned (.int .u64 (q : Int)) ∧ w = w')) (GT4 : Hid (∀ w, SlAt w (some ad) (u8v l) → Calls Tryd.prog 45 #[.slice (some ⟨ad.block, ad.off + 8, none⟩) 4 (c - 8)] w fun e w' => e = .returned (.int .u64 (t : Int)) ∧ w = w')) (h2 : ∀ w, SlAt w (some ad) (u8v l) → w.cell? ⟨ad.block, ad.off + 2, none⟩ = some (.int .u8 (S : Int))) (n K : Nat) (hn : n ≤ 6) (hmn : m = 12 + 4 * n) (hK : bits .and .u8 (K : Int) 128 = 0) (h3 : ∀ w, SlAt w (some ad) (u8v l) → w.cell? ⟨ad.block, ad.off + 3, none⟩ = some (.int .u8 (K : Int))) (d : List Nat) (hd : d = (l.drop 12).take (4 * n)) (hbd : Bytes d) (hdl : d.length = 4 * n) (fb sb : Bool) (hfb : (rdVals pf false n d).all finD = fb) (hsb : (rdVals pf false n d).all isSD = sb) (er : Int) (her : er = if fb = false ∨ false = sb then 211 else 0) (rd : Rd) (hrd : rd = if er = 0 then ⟨S, q, t, rdVals pf false n d⟩ else noRd) (hs : ((G : Int) != (C : Int)) = false) (w : World) (hT : FmS w) (hr : SlAt w (some ad) (u8v l)) : Calls Tryd.prog 23 #[.slice (some ad) (m + 4) c] w (RetR w rd er) := by
  have HFB := Lib.hid hfb; have HSB := Lib.hid hsb; have HER := Lib.hid her; have HBD := Lib.hid hbd; have HDL := Lib.hid hdl; have HD := Lib.hid hd; have HRD := Lib.hid hrd; clear hrd hfb hsb her hbd hdl hd
  have HR := Lib.hid hr; clear hr
  obtain ⟨m1, m2⟩ := hm
  have hn0 : (((m + 4 : Nat) : Int) != ((m + 4 : Nat) : Int)) = false := by rw [bne_eq_false_iff_eq]
  have d4 : decide ((m : Int) + 4 < 4) = false := decide_eq_false (by omega)
  have w4 : IntKind.i64.wrap (m : Int) = (m : Int) := by rw [IntKind.wrap_i64]; omega
  have hcm : ¬ c = m := by omega
  have hle : (m : Int) ≤ (m : Int) + 4 := by omega
  have hmc : m ≤ c := by omega
  have gC : IntKind.u64.wrap (C : Int) = (C : Int) := by rw [IntKind.wrap_u64]; omega
  clear hC
  have w32q : IntKind.u32.wrap (q : Int) = (q : Int) := by rw [IntKind.wrap_u32]; omega
  have w32t : IntKind.u32.wrap (t : Int) = (t : Int) := by rw [IntKind.wrap_u32]; omega
  have wS : IntKind.i64.wrap (S : Int) = (S : Int) := by rw [IntKind.wrap_i64]; omega
  have hc4 : ¬ c = 4 := by omega
  have hc8 : ¬ c = 8 := by omega
  have hc12 : ¬ c = 12 := by omega
  have l8 : (8 : Int) ≤ (c : Int) := by omega
  have l12 : (12 : Int) ≤ (c : Int) := by omega
  have l2 : (2 : Int) < (m : Int) + 4 := by omega
  have l3 : (3 : Int) < (m : Int) + 4 := by omega
  have l12m : (12 : Int) ≤ (m : Int) := by omega
  have HH := Lib.hid h2; have HH3 := Lib.hid h3; have HMN := Lib.hid hmn; clear h2 h3 hmn
  have HS := Lib.hid (And.intro hS (And.intro hq ht)); clear hS hq ht
  go_enter Tryd.func23, Tryd.ntmps23
  go_wp2_with fail
  refine (SZ.out _ (HR.out.of (by repeat (first | with_reducible exact Within.refl _ | with_reducible assumption | with_reducible refine Within.alloc ?_ _ | with_reducible refine Within.drew ?_ | with_reducible refine Within.drewN ?_ _ | with_reducible refine Within.setCell ?_ (by first | (simp; done) | (simp; omega)) _ | with_reducible refine Within.trans ?_ (by assumption))))).mono ?_; rintro e1 w1 ⟨rfl, rfl⟩
  go_wp2
  refine wp_region_within (by kernel_rfl) (by kernel_rfl) ?_
  repeat
    apply wpq_step rfl
    · intro wq hCq
      have hsl := HR.out.of ((((Within.refl w).alloc _).trans hCq))
      go_simp
      first | rfl | exact hCq.same (GT.out _ hsl) | exact hCq.same (SM.out _ hsl) | (trace_state; fail)
    try simp only [Act.put, List.setIfInBounds_toArray, List.set_cons_zero, List.set_cons_succ]
  refine wpQuiet_nil ?_
  intro w3 hb3
  have q0 : w3.cell? ⟨w.heap.size, 0, none⟩ = some (.int .i64 0) := (hb3.cells _ _ (by simp)).trans (by simp)
  have q1 : w3.cell? ⟨w.heap.size, 1, none⟩ = some (.int .u32 0) := (hb3.cells _ _ (by simp)).trans (by simp)
  have q2 : w3.cell? ⟨w.heap.size, 2, none⟩ = some (.int .u32 0) := (hb3.cells _ _ (by simp)).trans (by simp)
  have q3 : w3.cell? ⟨w.heap.size, 3, none⟩ = some (.slice none 0 0) := (hb3.cells _ _ (by simp)).trans (by simp)
  have qf : ∀ o, w3.frozen? ⟨w.heap.size, o, none⟩ = false := fun o => (hb3.frozens _ _ (by simp)).trans (by simp)
  have qz : w.heap.size < w3.heap.size := World.block_lt_of_cell? _ _ q0
  go_upto_region 6 with fail
  go_cut [6] (fun s6 wx => s6 = .pointer (some ⟨w3.heap.size, 0, none⟩) ∧ (wx.cell? ⟨w3.heap.size, 0, none⟩ = some (.int .i64 (S : Int)) ∧ wx.cell? ⟨w3.heap.size, 1, none⟩ = some (.int .u32 (q : Int)) ∧ wx.cell? ⟨w3.heap.size, 2, none⟩ = some (.int .u32 (t : Int)) ∧ wx.cell? ⟨w3.heap.size, 3, none⟩ = some (.slice none 0 0) ∧ (∀ o, wx.frozen? ⟨w3.heap.size, o, none⟩ = false) ∧ Within w3 wx))
  case first =>
    have h2 := HH.out
    refine wp_region_schG (fun W => SlAt W (some ad) (u8v l) ∧ W.heap.size = w3.heap.size ∧ Within w3 W) 14 (.firm 0 (.firm 1 (.firm 2 (.firm 3 (.firm 4 (.firm 5 (.firm 8 (.firm 9 (.two 6 (.firm 7 (.two 10 (.firm 11 (.firm 12 (.one 13 (.one 14 .nil)))) 13 (.one 10 (.firm 11 (.firm 12 (.one 14 .nil)))))) 13 (.one 6 (.firm 7 (.one 10 (.firm 11 (.firm 12 (.one 14 .nil))))))))))))))) (by kernel_rfl) (by kernel_rfl) ⟨HR.out.of ((Within.refl w).alloc _ |>.trans hb3), rfl, Within.refl _⟩ ?_
    rintro w0 ⟨hs0, hz1, hw0⟩
    try simp only [Act.put, List.setIfInBounds_toArray, List.set_cons_zero, List.set_cons_succ]
    apply sch_firm rfl rfl (by repeat (first | with_reducible exact Within.refl _ | with_reducible assumption | with_reducible refine Within.alloc ?_ _ | with_reducible refine Within.drew ?_ | with_reducible refine Within.drewN ?_ _ | with_reducible refine Within.setCell ?_ (by first | (simp; done) | (simp; omega)) _ | with_reducible refine Within.trans ?_ (by assumption)))
    · intro wq hq
      have hcq := hq.cells
      have hcell := h2 _ (hs0.of hq)
      clear hq
      go_simp
      first | rfl | (trace_state; fail)
    try simp only [Act.put, List.setIfInBounds_toArray, List.set_cons_zero, List.set_cons_succ]
    apply sch_firm rfl rfl (by repeat (first | with_reducible exact Within.refl _ | with_reducible assumption | with_reducible refine Within.alloc ?_ _ | with_reducible refine Within.drew ?_ | with_reducible refine Within.drewN ?_ _ | with_reducible refine Within.setCell ?_ (by first | (simp; done) | (simp; omega)) _ | with_reducible refine Within.trans ?_ (by assumption)))
    · intro wq hq
      have hcq := hq.cells
      have hcell := h2 _ (hs0.of hq)
      clear hq
      go_simp
      first | rfl | (trace_state; fail)
    try simp only [Act.put, List.setIfInBounds_toArray, List.set_cons_zero, List.set_cons_succ]
    apply sch_firm rfl rfl (by repeat (first | with_reducible exact Within.refl _ | with_reducible assumption | with_reducible refine Within.alloc ?_ _ | with_reducible refine Within.drew ?_ | with_reducible refine Within.drewN ?_ _ | with_reducible refine Within.setCell ?_ (by first | (simp; done) | (simp; omega)) _ | with_reducible refine Within.trans ?_ (by assumption)))
    · intro wq hq
      have hcq := hq.cells
      have hcell := h2 _ (hs0.of hq)
      clear hq
      go_simp
      first | rfl | (trace_state; fail)
    try simp only [Act.put, List.setIfInBounds_toArray, List.set_cons_zero, List.set_cons_succ]
    apply sch_firm rfl rfl (by repeat (first | with_reducible exact Within.refl _ | with_reducible assumption | with_reducible refine Within.alloc ?_ _ | with_reducible refine Within.drew ?_ | with_reducible refine Within.drewN ?_ _ | with_reducible refine Within.setCell ?_ (by first | (simp; done) | (simp; omega)) _ | with_reducible refine Within.trans ?_ (by assumption)))
    · intro wq hq
      have hcq := hq.cells
      have hcell := h2 _ (hs0.of hq)
      clear hq
      go_simp
      first | rfl | (trace_state; fail)
    try simp only [Act.put, List.setIfInBounds_toArray, List.set_cons_zero, List.set_cons_succ]
    apply sch_firm rfl rfl (by repeat (first | with_reducible exact Within.refl _ | with_reducible assumption | with_reducible refine Within.alloc ?_ _ | with_reducible refine Within.drew ?_ | with_reducible refine Within.drewN ?_ _ | with_reducible refine Within.setCell ?_ (by first | (simp; done) | (simp; omega)) _ | with_reducible refine Within.trans ?_ (by assumption)))
    · intro wq hq
      have hcq := hq.cells
      have hcell := h2 _ (hs0.of hq)
      clear hq
      go_simp
      first | rfl | (trace_state; fail)
    try simp only [Act.put, List.setIfInBounds_toArray, List.set_cons_zero, List.set_cons_succ]
    apply sch_firm rfl rfl (by repeat (first | with_reducible exact Within.refl _ | with_reducible assumption | with_reducible refine Within.alloc ?_ _ | with_reducible refine Within.drew ?_ | with_reducible refine Within.drewN ?_ _ | with_reducible refine Within.setCell ?_ (by first | (simp; done) | (simp; omega)) _ | with_reducible refine Within.trans ?_ (by assumption)))
    · intro wq hq
      have hcq := hq.cells
      have hcell := h2 _ (hs0.of hq)
      clear hq
      go_simp
      first | rfl | (trace_state; fail)
    try simp only [Act.put, List.setIfInBounds_toArray, List.set_cons_zero, List.set_cons_succ]
    apply sch_firm rfl rfl (by repeat (first | with_reducible exact Within.refl _ | with_reducible assumption | with_reducible refine Within.alloc ?_ _ | with_reducible refine Within.drew ?_ | with_reducible refine Within.drewN ?_ _ | with_reducible refine Within.setCell ?_ (by first | (simp; done) | (simp; omega)) _ | with_reducible refine Within.trans ?_ (by assumption)))
    · intro wq hq
      have hcq := hq.cells
      have hcell := h2 _ (hs0.of hq)
      clear hq
      go_simp
      first | rfl | (trace_state; fail)
    try simp only [Act.put, List.setIfInBounds_toArray, List.set_cons_zero, List.set_cons_succ]
    apply sch_firm rfl rfl (by repeat (first | with_reducible exact Within.refl _ | with_reducible assumption | with_reducible refine Within.alloc ?_ _ | with_reducible refine Within.drew ?_ | with_reducible refine Within.drewN ?_ _ | with_reducible refine Within.setCell ?_ (by first | (simp; done) | (simp; omega)) _ | with_reducible refine Within.trans ?_ (by assumption)))
    · intro wq hq
      have hcq := hq.cells
      have hcell := h2 _ (hs0.of hq)
      clear hq
      go_simp
      first | rfl | (trace_state; fail)
    try simp only [Act.put, List.setIfInBounds_toArray, List.set_cons_zero, List.set_cons_succ]
    refine sch_two rfl rfl rfl rfl (fun K hK => ?_) (fun K hK => ?_)
    · go_simp
      refine (GQ.out _ (by first | exact hs0 | exact hs0.of ((Within.refl _).drew) | exact hs0.of (((Within.refl _).drew).alloc _))).mono ?_; rintro e4 w4 ⟨rfl, rfl⟩
      refine hK _ _ (by repeat (first | with_reducible exact Within.refl _ | with_reducible assumption | with_reducible refine Within.alloc ?_ _ | with_reducible refine Within.drew ?_ | with_reducible refine Within.drewN ?_ _ | with_reducible refine Within.setCell ?_ (by first | (simp; done) | (simp; omega)) _ | with_reducible refine Within.trans ?_ (by assumption))) ?_
      clear hK K
      try simp only [Act.put, List.setIfInBounds_toArray, List.set_cons_zero, List.set_cons_succ]
      apply sch_firm rfl rfl (by repeat (first | with_reducible exact Within.refl _ | with_reducible assumption | with_reducible refine Within.alloc ?_ _ | with_reducible refine Within.drew ?_ | with_reducible refine Within.drewN ?_ _ | with_reducible refine Within.setCell ?_ (by first | (simp; done) | (simp; omega)) _ | with_reducible refine Within.trans ?_ (by assumption)))
      · intro wq hq
        have hcq := hq.cells
        have hcell := h2 _ (hs0.of hq)
        clear hq
        go_simp
        first | rfl | (trace_state; fail)
      try simp only [Act.put, List.setIfInBounds_toArray, List.set_cons_zero, List.set_cons_succ]
      refine sch_two rfl rfl rfl rfl (fun K hK => ?_) (fun K hK => ?_)
      · go_simp
        refine (GT4.out _ (by first | exact hs0 | exact hs0.of ((Within.refl _).drew) | exact hs0.of (((Within.refl _).drew).alloc _))).mono ?_; rintro e5 w5 ⟨rfl, rfl⟩
        refine hK _ _ (by repeat (first | with_reducible exact Within.refl _ | with_reducible assumption | with_reducible refine Within.alloc ?_ _ | with_reducible refine Within.drew ?_ | with_reducible refine Within.drewN ?_ _ | with_reducible refine Within.setCell ?_ (by first | (simp; done) | (simp; omega)) _ | with_reducible refine Within.trans ?_ (by assumption))) ?_
        clear hK K
        try simp only [Act.put, List.setIfInBounds_toArray, List.set_cons_zero, List.set_cons_succ]
        apply sch_firm rfl rfl (by repeat (first | with_reducible exact Within.refl _ | with_reducible assumption | with_reducible refine Within.alloc ?_ _ | with_reducible refine Within.drew ?_ | with_reducible refine Within.drewN ?_ _ | with_reducible refine Within.setCell ?_ (by first | (simp; done) | (simp; omega)) _ | with_reducible refine Within.trans ?_ (by assumption)))
        · intro wq hq
          have hcq := hq.cells
          have hcell := h2 _ (hs0.of hq)
          clear hq
          go_simp
          first | rfl | (trace_state; fail)
        try simp only [Act.put, List.setIfInBounds_toArray, List.set_cons_zero, List.set_cons_succ]
        apply sch_firm rfl rfl (by repeat (first | with_reducible exact Within.refl _ | with_reducible assumption | with_reducible refine Within.alloc ?_ _ | with_reducible refine Within.drew ?_ | with_reducible refine Within.drewN ?_ _ | with_reducible refine Within.setCell ?_ (by first | (simp; done) | (simp; omega)) _ | with_reducible refine Within.trans ?_ (by assumption)))
        · intro wq hq
          have hcq := hq.cells
          have hcell := h2 _ (hs0.of hq)
          clear hq
          go_simp
          first | rfl | (trace_state; fail)
        try simp only [Act.put, List.setIfInBounds_toArray, List.set_cons_zero, List.set_cons_succ]
        refine sch_one rfl rfl (fun K hK => ?_)
        go_simp
        refine hK _ _ (fun _ => (by repeat (first | with_reducible exact Within.refl _ | with_reducible assumption | with_reducible refine Within.alloc ?_ _ | with_reducible refine Within.drew ?_ | with_reducible refine Within.drewN ?_ _ | with_reducible refine Within.setCell ?_ (by first | (simp; done) | (simp; omega)) _ | with_reducible refine Within.trans ?_ (by assumption)))) ?_
        clear hK K
        try simp only [Act.put, List.setIfInBounds_toArray, List.set_cons_zero, List.set_cons_succ]
        refine sch_one rfl rfl (fun K hK => ?_)
        go_simp
        refine hK _ _ (fun h => absurd h (by decide)) ?_
        clear hK K
        try simp only [Act.put, List.setIfInBounds_toArray, List.set_cons_zero, List.set_cons_succ]
        refine sch_nil ?_
        go_wp2_with fail
        go_meet
        exact ⟨rfl, by go_simp, by go_simp, by go_simp, by go_simp, fun o => by go_simp, (by repeat (first | with_reducible exact Within.refl _ | with_reducible assumption | with_reducible refine Within.alloc ?_ _ | with_reducible refine Within.drew ?_ | with_reducible refine Within.drewN ?_ _ | with_reducible refine Within.setCell ?_ (by first | (simp; done) | (simp; omega)) _ | with_reducible refine Within.trans ?_ (by assumption)))⟩
      · go_simp
        refine hK _ _ (by repeat (first | with_reducible exact Within.refl _ | with_reducible assumption | with_reducible refine Within.alloc ?_ _ | with_reducible refine Within.drew ?_ | with_reducible refine Within.drewN ?_ _ | with_reducible refine Within.setCell ?_ (by first | (simp; done) | (simp; omega)) _ | with_reducible refine Within.trans ?_ (by assumption))) ?_
        clear hK K
        try simp only [Act.put, List.setIfInBounds_toArray, List.set_cons_zero, List.set_cons_succ]
        refine sch_one rfl rfl (fun K hK => ?_)
        go_simp
        refine (GT4.out _ (by first | exact hs0 | exact hs0.of ((Within.refl _).drew) | exact hs0.of (((Within.refl _).drew).alloc _))).mono ?_; rintro e5 w5 ⟨rfl, rfl⟩
        refine hK _ _ (fun _ => (by repeat (first | with_reducible exact Within.refl _ | with_reducible assumption | with_reducible refine Within.alloc ?_ _ | with_reducible refine Within.drew ?_ | with_reducible refine Within.drewN ?_ _ | with_reducible refine Within.setCell ?_ (by first | (simp; done) | (simp; omega)) _ | with_reducible refine Within.trans ?_ (by assumption)))) ?_
        clear hK K
        try simp only [Act.put, List.setIfInBounds_toArray, List.set_cons_zero, List.set_cons_succ]
        apply sch_firm rfl rfl (by repeat (first | with_reducible exact Within.refl _ | with_reducible assumption | with_reducible refine Within.alloc ?_ _ | with_reducible refine Within.drew ?_ | with_reducible refine Within.drewN ?_ _ | with_reducible refine Within.setCell ?_ (by first | (simp; done) | (simp; omega)) _ | with_reducible refine Within.trans ?_ (by assumption)))
        · intro wq hq
          have hcq := hq.cells
          have hcell := h2 _ (hs0.of hq)
          clear hq
          go_simp
          first | rfl | (trace_state; fail)
        try simp only [Act.put, List.setIfInBounds_toArray, List.set_cons_zero, List.set_cons_succ]
        apply sch_firm rfl rfl (by repeat (first | with_reducible exact Within.refl _ | with_reducible assumption | with_reducible refine Within.alloc ?_ _ | with_reducible refine Within.drew ?_ | with_reducible refine Within.drewN ?_ _ | with_reducible refine Within.setCell ?_ (by first | (simp; done) | (simp; omega)) _ | with_reducible refine Within.trans ?_ (by assumption)))
        · intro wq hq
          have hcq := hq.cells
          have hcell := h2 _ (hs0.of hq)
          clear hq
          go_simp
          first | rfl | (trace_state; fail)
        try simp only [Act.put, List.setIfInBounds_toArray, List.set_cons_zero, List.set_cons_succ]
        refine sch_one rfl rfl (fun K hK => ?_)
        go_simp
        refine hK _ _ (fun h => absurd h (by decide)) ?_
        clear hK K
        try simp only [Act.put, List.setIfInBounds_toArray, List.set_cons_zero, List.set_cons_succ]
        refine sch_nil ?_
        go_wp2_with fail
        go_meet
        exact ⟨rfl, by go_simp, by go_simp, by go_simp, by go_simp, fun o => by go_simp, (by repeat (first | with_reducible exact Within.refl _ | with_reducible assumption | with_reducible refine Within.alloc ?_ _ | with_reducible refine Within.drew ?_ | with_reducible refine Within.drewN ?_ _ | with_reducible refine Within.setCell ?_ (by first | (simp; done) | (simp; omega)) _ | with_reducible refine Within.trans ?_ (by assumption)))⟩
    · go_simp
      refine hK _ _ (by repeat (first | with_reducible exact Within.refl _ | with_reducible assumption | with_reducible refine Within.alloc ?_ _ | with_reducible refine Within.drew ?_ | with_reducible refine Within.drewN ?_ _ | with_reducible refine Within.setCell ?_ (by first | (simp; done) | (simp; omega)) _ | with_reducible refine Within.trans ?_ (by assumption))) ?_
      clear hK K
      try simp only [Act.put, List.setIfInBounds_toArray, List.set_cons_zero, List.set_cons_succ]
      refine sch_one rfl rfl (fun K hK => ?_)
      go_simp
      refine (GQ.out _ (by first | exact hs0 | exact hs0.of ((Within.refl _).drew) | exact hs0.of (((Within.refl _).drew).alloc _))).mono ?_; rintro e4 w4 ⟨rfl, rfl⟩
      refine hK _ _ (fun _ => (by repeat (first | with_reducible exact Within.refl _ | with_reducible assumption | with_reducible refine Within.alloc ?_ _ | with_reducible refine Within.drew ?_ | with_reducible refine Within.drewN ?_ _ | with_reducible refine Within.setCell ?_ (by first | (simp; done) | (simp; omega)) _ | with_reducible refine Within.trans ?_ (by assumption)))) ?_
      clear hK K
      try simp only [Act.put, List.setIfInBounds_toArray, List.set_cons_zero, List.set_cons_succ]
      apply sch_firm rfl rfl (by repeat (first | with_reducible exact Within.refl _ | with_reducible assumption | with_reducible refine Within.alloc ?_ _ | with_reducible refine Within.drew ?_ | with_reducible refine Within.drewN ?_ _ | with_reducible refine Within.setCell ?_ (by first | (simp; done) | (simp; omega)) _ | with_reducible refine Within.trans ?_ (by assumption)))
      · intro wq hq
        have hcq := hq.cells
        have hcell := h2 _ (hs0.of hq)
        clear hq
        go_simp
        first | rfl | (trace_state; fail)
      try simp only [Act.put, List.setIfInBounds_toArray, List.set_cons_zero, List.set_cons_succ]
      refine sch_one rfl rfl (fun K hK => ?_)
      go_simp
      refine (GT4.out _ (by first | exact hs0 | exact hs0.of ((Within.refl _).drew) | exact hs0.of (((Within.refl _).drew).alloc _))).mono ?_; rintro e5 w5 ⟨rfl, rfl⟩
      refine hK _ _ (fun _ => (by repeat (first | with_reducible exact Within.refl _ | with_reducible assumption | with_reducible refine Within.alloc ?_ _ | with_reducible refine Within.drew ?_ | with_reducible refine Within.drewN ?_ _ | with_reducible refine Within.setCell ?_ (by first | (simp; done) | (simp; omega)) _ | with_reducible refine Within.trans ?_ (by assumption)))) ?_
      clear hK K
      try simp only [Act.put, List.setIfInBounds_toArray, List.set_cons_zero, List.set_cons_succ]
      apply sch_firm rfl rfl (by repeat (first | with_reducible exact Within.refl _ | with_reducible assumption | with_reducible refine Within.alloc ?_ _ | with_reducible refine Within.drew ?_ | with_reducible refine Within.drewN ?_ _ | with_reducible refine Within.setCell ?_ (by first | (simp; done) | (simp; omega)) _ | with_reducible refine Within.trans ?_ (by assumption)))
      · intro wq hq
        have hcq := hq.cells
        have hcell := h2 _ (hs0.of hq)
        clear hq
        go_simp
        first | rfl | (trace_state; fail)
      try simp only [Act.put, List.setIfInBounds_toArray, List.set_cons_zero, List.set_cons_succ]
      apply sch_firm rfl rfl (by repeat (first | with_reducible exact Within.refl _ | with_reducible assumption | with_reducible refine Within.alloc ?_ _ | with_reducible refine Within.drew ?_ | with_reducible refine Within.drewN ?_ _ | with_reducible refine Within.setCell ?_ (by first | (simp; done) | (simp; omega)) _ | with_reducible refine Within.trans ?_ (by assumption)))
      · intro wq hq
        have hcq := hq.cells
        have hcell := h2 _ (hs0.of hq)
        clear hq
        go_simp
        first | rfl | (trace_state; fail)
      try simp only [Act.put, List.setIfInBounds_toArray, List.set_cons_zero, List.set_cons_succ]
      refine sch_one rfl rfl (fun K hK => ?_)
      go_simp
      refine hK _ _ (fun h => absurd h (by decide)) ?_
      clear hK K
      try simp only [Act.put, List.setIfInBounds_toArray, List.set_cons_zero, List.set_cons_succ]
      refine sch_nil ?_
      go_wp2_with fail
      go_meet
      exact ⟨rfl, by go_simp, by go_simp, by go_simp, by go_simp, fun o => by go_simp, (by repeat (first | with_reducible exact Within.refl _ | with_reducible assumption | with_reducible refine Within.alloc ?_ _ | with_reducible refine Within.drew ?_ | with_reducible refine Within.drewN ?_ _ | with_reducible refine Within.setCell ?_ (by first | (simp; done) | (simp; omega)) _ | with_reducible refine Within.trans ?_ (by assumption)))⟩
  case rest =>
    obtain ⟨rfl, r0, r1, r2, r3, rf, hw6⟩ := hcut
    have hsl3 : SlAt w3 (some ad) (u8v l) := HR.out.of ((Within.refl w).alloc _ |>.trans hb3)
    have k3 := HH3.out _ (hsl3.of hw6)
    go_wp2
    go_loopw [8] (fun vv wr => UnRel w3 d false n S q t vv wr) (fun vv _ => restLen vv)
    case atStart =>
      refine ⟨0, some ⟨ad.block, ad.off + 12, none⟩, c - 12, [], .slice none 0 0, Nat.zero_le _, ?_, ?_, ?_, rfl, (fun x hx => by cases hx), OwnF.nil_ _ _, r0, r1, r2, r3, rf, hw6⟩
      · rw [show stp false * (n - 0) = m - 12 by have := HMN.out; unfold stp; simp; omega]
      · have := HMN.out; unfold stp; simp; omega
      · rw [Nat.mul_zero, List.drop_zero, HD.out]
        have h1 := (hsl3.drop 12).take (4 * n)
        rw [add_plain' ad (by decide)] at h1
        unfold u8v at h1 ⊢; rwa [← List.map_drop, ← List.map_take] at h1
    case round =>
      obtain ⟨k, A', c', vs, sl, hk, rfl, hc', hat, hvs, hwv, hown, p0, p1, p2, p3, pf', hin⟩ := hrel
      have HVS := Lib.hid hvs; have HWV := Lib.hid hwv; clear hvs hwv
      have hvl : vs.length = k := by have := congrArg List.length HVS.out; rwa [List.length_map, List.length_map, rdVals_len] at this
      have hRz : w3.heap.size < wr.heap.size := World.block_lt_of_cell? wr _ p0
      obtain ⟨As, cs, rfl, _, hsat, _⟩ := hown.form
      have HOW := Lib.hid hown; have HVL := Lib.hid hvl; clear hown hvl
      have HPF := Lib.hid pf'; clear pf'
      by_cases hlt : k < n
      · obtain ⟨j, hj⟩ : ∃ j, n = k + 1 + j := ⟨n - (k + 1), by omega⟩
        have e1 : stp false * (n - k) = 4 * j + 4 := by unfold stp; simp; omega
        have e2 : stp false * (n - (k + 1)) = 4 * j := by unfold stp; simp; omega
        rw [e1] at hc' ⊢
        obtain ⟨a', rfl, hblk, hcl⟩ := hat (by rw [u8v_len, List.length_drop, HDL.out]; unfold stp; simp; omega)
        obtain ⟨D, hD⟩ : ∃ D, D = d.drop (stp false * k) := ⟨_, rfl⟩
        have hDl : 4 ≤ D.length := by rw [hD, List.length_drop, HDL.out]; unfold stp; simp; omega
        have hDb : Bytes D := by rw [hD]; exact HBD.out.drop _
        rw [← hD] at hat
        have hTl : (D.take 4).length = 4 := by rw [List.length_take]; omega
        obtain ⟨X, hX⟩ : ∃ X, X = leVal (D.take 4) := ⟨_, rfl⟩
        have hX2 : X < 2 ^ 32 := by rw [hX]; have := leVal_lt (hDb.take 4); rwa [hTl] at this
        have GV : Hid (∀ wx, SlAt wx (some a') (u8v D) → Calls Tryd.prog 45 #[.slice (some a') 4 c'] wx fun e w' => e = .returned (.int .u64 (X : Int)) ∧ wx = w') := Lib.hid (fun wx hx => by
          have h1 : SlAt wx (some a') (u8v (D.take 4)) := by have := hx.take 4; unfold u8v at this ⊢; rwa [← List.map_take] at this
          have := get_any (some a') c' (D.take 4) (hDb.take 4) (by rw [hTl]; decide) wx h1
          rwa [hTl, ← hX] at this)
        have l8c : (4 : Int) ≤ (c' : Int) := by omega
        have hX2' : X < 4294967296 := by omega
        have hcv : ∀ w, (convert 78 75 (.float .f32 X)).run Tryd.prog w = .ok (.float .f64 (wideV X w)) (wideW X w) := fun w => conv_wide (by kernel_rfl) (by kernel_rfl) X hX2' w
        have gX : IntKind.u32.wrap (X : Int) = (X : Int) := by rw [IntKind.wrap_u32]; omega
        clear hX2'
        have HN := Lib.hid hj; have HE2 := Lib.hid e2; have HDD := Lib.hid hD; have HDB := Lib.hid hDb; have HDL2 := Lib.hid hDl; have HXX := Lib.hid hX; have HX2 := Lib.hid hX2
        clear hj e1 e2 hD hDl hDb hTl hX hX2
        have hat0 := hat.of hin
        have hpb : ∀ b : Bool, b = decide (c' = 4) → True := fun _ _ => trivial
        rcases Decidable.em (c' = 4) with rfl | hc8'
        all_goals
          go_wp2
          refine wp_region_schB ((w3.heap.size + 1)) (fun W => W.cell? ⟨w3.heap.size, 0, none⟩ = some (.int .i64 (S : Int)) ∧ W.cell? ⟨w3.heap.size, 1, none⟩ = some (.int .u32 (q : Int)) ∧ W.cell? ⟨w3.heap.size, 2, none⟩ = some (.int .u32 (t : Int)) ∧ W.cell? ⟨w3.heap.size, 3, none⟩ = some (.slice As vs.length cs) ∧ SlAt W (some a') (u8v D) ∧ OwnF W (w3.heap.size + 1) (.slice As vs.length cs) vs ∧ w3.heap.size < W.heap.size ∧ w3.heap.size + 1 ≤ W.heap.size ∧ Within w3 W ∧ (∀ o, W.frozen? ⟨w3.heap.size, o, none⟩ = false)) 11 (.firm 0 (.firm 1 (.firm 2 (.firm 3 (.one 4 (.firm 5 (.one 6 (.one 7 (.one 8 (.one 9 (.firm 10 (.one 11 .nil)))))))))))) (by kernel_rfl) (by kernel_rfl) ⟨p0, p1, p2, p3, hat0, HOW.out, hRz, hRz, hin, HPF.out⟩ ?_
          rintro w0 ⟨b0, b1, b2, b3, hs0, ho0, hz0, hz1, hw0, hf0⟩
          have hWW : Below (w3.heap.size + 1) w0 (wideW X w0.drew) := Below.trans ((Below.refl _ _).drew) ((wideW_in w0.drew).mono (show _ ≤ w0.heap.size from hz1))
          have hWz : w3.heap.size + 1 ≤ (wideW X w0.drew).heap.size := Nat.le_trans hz1 hWW.size
          obtain ⟨v1, w1, hrun, hown1, hbl2⟩ := run_app_float (wideW X w0.drew) (w3.heap.size + 1) _ vs (wideV X w0.drew) (ho0.of (Within.trans ((Within.refl _).drew) (wideW_in _))) (by have := HVL.out; omega) hWz
          have hbl1 : Below (w3.heap.size + 1) w0 w1 := Below.trans hWW hbl2
          obtain ⟨A1, c1, hv1, _⟩ := hown1.form
          obtain ⟨N1, hN1⟩ : ∃ N1, N1 = (vs ++ [wideV X w0.drew]).length := ⟨_, rfl⟩
          rw [← hN1] at hv1
          subst hv1
          have RUN := Lib.hid hrun; clear hrun
          have g0 : w1.cell? ⟨w3.heap.size, 0, none⟩ = some (.int .i64 (S : Int)) := (hbl1.cell (p := ⟨w3.heap.size, 0, none⟩) (Nat.lt_succ_self _)).trans b0
          have g1 : w1.cell? ⟨w3.heap.size, 1, none⟩ = some (.int .u32 (q : Int)) := (hbl1.cell (p := ⟨w3.heap.size, 1, none⟩) (Nat.lt_succ_self _)).trans b1
          have g2 : w1.cell? ⟨w3.heap.size, 2, none⟩ = some (.int .u32 (t : Int)) := (hbl1.cell (p := ⟨w3.heap.size, 2, none⟩) (Nat.lt_succ_self _)).trans b2
          have g3 : w1.cell? ⟨w3.heap.size, 3, none⟩ = some (.slice As vs.length cs) := (hbl1.cell (p := ⟨w3.heap.size, 3, none⟩) (Nat.lt_succ_self _)).trans b3
          have gf : ∀ o, w1.frozen? ⟨w3.heap.size, o, none⟩ = false := fun o => (hbl1.frozen (p := ⟨w3.heap.size, o, none⟩) (Nat.lt_succ_self _)).trans (hf0 o)
          try simp only [Act.put, List.setIfInBounds_toArray, List.set_cons_zero, List.set_cons_succ]
          apply sch_firm rfl rfl (by repeat (first | with_reducible exact Below.refl _ _ | with_reducible assumption | with_reducible refine Below.drew ?_ | with_reducible refine Below.alloc ?_ (by first | assumption | (simp; omega)) _ | with_reducible refine Below.trans ?_ (by assumption)))
          · intro wq hq
            have hcq : ∀ b o, b < (w3.heap.size + 1) → wq.cell? ⟨b, o, none⟩ = w0.cell? ⟨b, o, none⟩ := fun b o hb => hq.cell (p := ⟨b, o, none⟩) hb
            clear hq
            go_simp
            first | rfl | (trace_state; fail)
          try simp only [Act.put, List.setIfInBounds_toArray, List.set_cons_zero, List.set_cons_succ]
          apply sch_firm rfl rfl (by repeat (first | with_reducible exact Below.refl _ _ | with_reducible assumption | with_reducible refine Below.drew ?_ | with_reducible refine Below.alloc ?_ (by first | assumption | (simp; omega)) _ | with_reducible refine Below.trans ?_ (by assumption)))
          · intro wq hq
            have hcq : ∀ b o, b < (w3.heap.size + 1) → wq.cell? ⟨b, o, none⟩ = w0.cell? ⟨b, o, none⟩ := fun b o hb => hq.cell (p := ⟨b, o, none⟩) hb
            clear hq
            go_simp
            first | rfl | (trace_state; fail)
          try simp only [Act.put, List.setIfInBounds_toArray, List.set_cons_zero, List.set_cons_succ]
          apply sch_firm rfl rfl (by repeat (first | with_reducible exact Below.refl _ _ | with_reducible assumption | with_reducible refine Below.drew ?_ | with_reducible refine Below.alloc ?_ (by first | assumption | (simp; omega)) _ | with_reducible refine Below.trans ?_ (by assumption)))
          · intro wq hq
            have hcq : ∀ b o, b < (w3.heap.size + 1) → wq.cell? ⟨b, o, none⟩ = w0.cell? ⟨b, o, none⟩ := fun b o hb => hq.cell (p := ⟨b, o, none⟩) hb
            clear hq
            go_simp
            first | rfl | (trace_state; fail)
          try simp only [Act.put, List.setIfInBounds_toArray, List.set_cons_zero, List.set_cons_succ]
          apply sch_firm rfl rfl (by repeat (first | with_reducible exact Below.refl _ _ | with_reducible assumption | with_reducible refine Below.drew ?_ | with_reducible refine Below.alloc ?_ (by first | assumption | (simp; omega)) _ | with_reducible refine Below.trans ?_ (by assumption)))
          · intro wq hq
            have hcq : ∀ b o, b < (w3.heap.size + 1) → wq.cell? ⟨b, o, none⟩ = w0.cell? ⟨b, o, none⟩ := fun b o hb => hq.cell (p := ⟨b, o, none⟩) hb
            clear hq
            go_simp
            first | rfl | (trace_state; fail)
          try simp only [Act.put, List.setIfInBounds_toArray, List.set_cons_zero, List.set_cons_succ]
          refine sch_one rfl rfl (fun K hK => ?_)
          go_simp
          refine (GV.out _ (by exact hs0.of ((Within.refl _).drew))).mono ?_; rintro e5 w5 ⟨rfl, rfl⟩
          refine hK _ _ (fun _ => (by repeat (first | with_reducible exact Below.refl _ _ | with_reducible assumption | with_reducible refine Below.drew ?_ | with_reducible refine Below.alloc ?_ (by first | assumption | (simp; omega)) _ | with_reducible refine Below.trans ?_ (by assumption)))) ?_
          clear hK K
          try simp only [Act.put, List.setIfInBounds_toArray, List.set_cons_zero, List.set_cons_succ]
          apply sch_firm rfl rfl (by repeat (first | with_reducible exact Below.refl _ _ | with_reducible assumption | with_reducible refine Below.drew ?_ | with_reducible refine Below.alloc ?_ (by first | assumption | (simp; omega)) _ | with_reducible refine Below.trans ?_ (by assumption)))
          · intro wq hq
            have hcq : ∀ b o, b < (w3.heap.size + 1) → wq.cell? ⟨b, o, none⟩ = w0.cell? ⟨b, o, none⟩ := fun b o hb => hq.cell (p := ⟨b, o, none⟩) hb
            clear hq
            go_simp
            first | rfl | (trace_state; fail)
          try simp only [Act.put, List.setIfInBounds_toArray, List.set_cons_zero, List.set_cons_succ]
          refine sch_one rfl rfl (fun K hK => ?_)
          go_simp
          refine hK _ _ (fun _ => (by repeat (first | with_reducible exact Below.refl _ _ | with_reducible assumption | with_reducible refine Below.drew ?_ | with_reducible refine Below.alloc ?_ (by first | assumption | (simp; omega)) _ | with_reducible refine Below.trans ?_ (by assumption)))) ?_
          clear hK K
          try simp only [Act.put, List.setIfInBounds_toArray, List.set_cons_zero, List.set_cons_succ]
          refine sch_one rfl rfl (fun K hK => ?_)
          go_simp
          refine hK _ _ (fun _ => (by repeat (first | with_reducible exact Below.refl _ _ | with_reducible assumption | with_reducible refine Below.drew ?_ | with_reducible refine Below.alloc ?_ (by first | assumption | (simp; omega)) _ | with_reducible refine Below.trans ?_ (by assumption)))) ?_
          clear hK K
          try simp only [Act.put, List.setIfInBounds_toArray, List.set_cons_zero, List.set_cons_succ]
          refine sch_one rfl rfl (fun K hK => ?_)
          go_simp
          refine hK _ _ (fun _ => (by repeat (first | with_reducible exact Below.refl _ _ | with_reducible assumption | with_reducible refine Below.drew ?_ | with_reducible refine Below.alloc ?_ (by first | assumption | (simp; omega)) _ | with_reducible refine Below.trans ?_ (by assumption)))) ?_
          clear hK K
          try simp only [Act.put, List.setIfInBounds_toArray, List.set_cons_zero, List.set_cons_succ]
          refine sch_one rfl rfl (fun K hK => ?_)
          refine op_append_run (.tmp 79) (.tmp 86) 27 rfl _ _ rfl rfl RUN.out ?_
          refine hK _ _ (fun _ => (by repeat (first | with_reducible exact Below.refl _ _ | with_reducible assumption | with_reducible refine Below.drew ?_ | with_reducible refine Below.alloc ?_ (by first | assumption | (simp; omega)) _ | with_reducible refine Below.trans ?_ (by assumption)))) ?_
          clear hK K
          try simp only [Act.put, List.setIfInBounds_toArray, List.set_cons_zero, List.set_cons_succ]
          apply sch_firm rfl rfl (by repeat (first | with_reducible exact Below.refl _ _ | with_reducible assumption | with_reducible refine Below.drew ?_ | with_reducible refine Below.alloc ?_ (by first | assumption | (simp; omega)) _ | with_reducible refine Below.trans ?_ (by assumption)))
          · intro wq hq
            have hcq : ∀ b o, b < (w3.heap.size + 1) → wq.cell? ⟨b, o, none⟩ = w0.cell? ⟨b, o, none⟩ := fun b o hb => hq.cell (p := ⟨b, o, none⟩) hb
            clear hq
            go_simp
            first | rfl | (trace_state; fail)
          try simp only [Act.put, List.setIfInBounds_toArray, List.set_cons_zero, List.set_cons_succ]
          refine sch_one rfl rfl (fun K hK => ?_)
          go_simp
          refine hK _ _ (fun h => absurd h (by decide)) ?_
          clear hK K
          try simp only [Act.put, List.setIfInBounds_toArray, List.set_cons_zero, List.set_cons_succ]
          refine sch_nil ?_
          go_wp2
          rw [List.length_append, List.length_singleton] at hN1; subst hN1
          have hlt' := hlt; have hnj := HN.out; have hd1 := HDL.out; have hdl2 := HDL2.out
          have hWin : Within w3 w1 := Below.trans hw0 (hbl1.mono (Nat.le_succ _))
          have hXc : canonD (wideV X w0.drew) = canonD (if false = true then leVal ((d.drop (stp false * k)).take 8) else pf.wb (leVal ((d.drop (stp false * k)).take 4))) := by rw [wideV_canon (by have := HX2.out; omega), HXX.out, HDD.out]; rw [if_neg (by decide)]; exact wide_canon.symm
        · have hj0 : j = 0 := by omega
          subst hj0
          have E2 : stp false * (n - (k + 1)) = 0 := HE2.out
          have hst := UnRel.step (A1 := some a') (c1 := 0) hlt (Nat.le_of_eq E2) (by rw [List.drop_eq_nil_of_le (by rw [hd1, hnj]; unfold stp; simp)]; exact SlAt.nil) HVS.out hXc (wideV_lt (by have := HX2.out; omega) _) HWV.out hown1 g0 g1 g2 (by rw [g3]; rfl) gf hWin
          rw [E2] at hst
          exact ⟨hst, by simp [restLen]⟩
        · have E2 : stp false * (n - (k + 1)) = 4 * j := HE2.out
          have hat8 : SlAt w3 (some ⟨a'.block, a'.off + 4, none⟩) (u8v (d.drop (stp false * (k + 1)))) := by
            have h1 := hat.drop 4
            rw [add_plain' a' (by decide), HDD.out] at h1
            unfold u8v at h1 ⊢; rw [← List.map_drop, List.drop_drop] at h1
            rwa [show stp false * (k + 1) = stp false * k + 4 by rw [Nat.mul_add]; rfl]
          have hst := UnRel.step hlt (c1 := c' - 4) (by rw [E2]; omega) hat8 HVS.out hXc (wideV_lt (by have := HX2.out; omega) _) HWV.out hown1 g0 g1 g2 (by rw [g3]; rfl) gf hWin
          rw [E2] at hst
          exact ⟨hst, by simp [restLen]⟩
      · have hkn : k = n := by omega
        subst hkn
        rw [show stp false * (k - k) = 0 by simp]
        have hfe : vs.all finD = fb := (map_all (fun _ _ h => finD_same h) HVS.out).trans HFB.out
        have hse : vs.all isSD = sb := (map_all (fun _ _ h => isSD_same h) HVS.out).trans HSB.out
        have hWw : Within w wr := (((Within.refl w).alloc _).trans hb3).trans hin
        have FN := Finite_any As cs vs HWV.out (by have := HVL.out; omega) wr hsat
        rw [hfe] at FN
        have SGL : Hid (∀ wx, Within wr wx → Calls Tryd.prog 16 #[.agg #[.int .i64 (S : Int), .int .u32 (q : Int), .int .u32 (t : Int), .slice As vs.length cs]] wx fun e w' => e = .returned (.bool sb) ∧ Within wx w') := Lib.hid (fun wx hx => by
          have := Singles_any As cs (.int .i64 (S : Int)) (.int .u32 (q : Int)) (.int .u32 (t : Int)) vs HWV.out (by have := HVL.out; omega) wx ((hT.of hWw).of hx) (hsat.of hx)
          rwa [hse] at this)
        have HFN := Lib.hid FN; clear FN
        have hqz3 : w.heap.size < w3.heap.size + 1 := Nat.lt_succ_of_lt qz
        have qzr : w.heap.size < wr.heap.size := Nat.lt_of_lt_of_le qz hin.size
        have qr0 : wr.cell? ⟨w.heap.size, 0, none⟩ = some (.int .i64 0) := (hin.cells _ _ qz).trans q0
        have qr1 : wr.cell? ⟨w.heap.size, 1, none⟩ = some (.int .u32 0) := (hin.cells _ _ qz).trans q1
        have qr2 : wr.cell? ⟨w.heap.size, 2, none⟩ = some (.int .u32 0) := (hin.cells _ _ qz).trans q2
        have qr3 : wr.cell? ⟨w.heap.size, 3, none⟩ = some (.slice none 0 0) := (hin.cells _ _ qz).trans q3
        have qrf : ∀ o, wr.frozen? ⟨w.heap.size, o, none⟩ = false := fun o => (hin.frozens _ _ qz).trans (qf o)
        have HFE := Lib.hid hfe; clear hfe hse
        go_wp2_with fail
        refine HFN.out.mono ?_; rintro e5 w5 ⟨rfl, hw5⟩
        have p50 : w5.cell? ⟨w3.heap.size, 0, none⟩ = some (.int .i64 (S : Int)) := (hw5.cells _ _ hRz).trans p0
        have p51 : w5.cell? ⟨w3.heap.size, 1, none⟩ = some (.int .u32 (q : Int)) := (hw5.cells _ _ hRz).trans p1
        have p52 : w5.cell? ⟨w3.heap.size, 2, none⟩ = some (.int .u32 (t : Int)) := (hw5.cells _ _ hRz).trans p2
        have p53 : w5.cell? ⟨w3.heap.size, 3, none⟩ = some (.slice As vs.length cs) := (hw5.cells _ _ hRz).trans p3
        have z50 : w5.cell? ⟨w.heap.size, 0, none⟩ = some (.int .i64 0) := (hw5.cells _ _ qzr).trans qr0
        have z51 : w5.cell? ⟨w.heap.size, 1, none⟩ = some (.int .u32 0) := (hw5.cells _ _ qzr).trans qr1
        have z52 : w5.cell? ⟨w.heap.size, 2, none⟩ = some (.int .u32 0) := (hw5.cells _ _ qzr).trans qr2
        have z53 : w5.cell? ⟨w.heap.size, 3, none⟩ = some (.slice none 0 0) := (hw5.cells _ _ qzr).trans qr3
        have z5f : ∀ o, w5.frozen? ⟨w.heap.size, o, none⟩ = false := fun o => (hw5.frozens _ _ qzr).trans (qrf o)
        have hRz5 : w3.heap.size < w5.heap.size := Nat.lt_of_lt_of_le hRz hw5.size
        have qz5 : w.heap.size < w5.heap.size := Nat.lt_of_lt_of_le qzr hw5.size
        have hW5 : Within w w5 := hWw.trans hw5
        cases fb
        · go_wp2
          have E := HER.out; have R := HRD.out
          simp at E; subst E; simp at R; subst R
          refine bodyPost_ret (v := .tuple #[.agg #[.int .i64 0, .int .u32 0, .int .u32 0, .slice none 0 0], .int .i64 211]) (by simp [results, Tryd.results23, go_sem, z50, z51, z52, z53]) rfl ⟨_, rfl, OwnF.nil_ _ _, (by repeat (first | with_reducible exact hW5 | with_reducible refine Within.setCell ?_ (Nat.le_refl _) _))⟩
        · go_wp2_with fail
          refine (SGL.out _ hw5).mono ?_; rintro e6 w6 ⟨rfl, hw6⟩
          have p60 : w6.cell? ⟨w3.heap.size, 0, none⟩ = some (.int .i64 (S : Int)) := (hw6.cells _ _ hRz5).trans p50
          have p61 : w6.cell? ⟨w3.heap.size, 1, none⟩ = some (.int .u32 (q : Int)) := (hw6.cells _ _ hRz5).trans p51
          have p62 : w6.cell? ⟨w3.heap.size, 2, none⟩ = some (.int .u32 (t : Int)) := (hw6.cells _ _ hRz5).trans p52
          have p63 : w6.cell? ⟨w3.heap.size, 3, none⟩ = some (.slice As vs.length cs) := (hw6.cells _ _ hRz5).trans p53
          have z60 : w6.cell? ⟨w.heap.size, 0, none⟩ = some (.int .i64 0) := (hw6.cells _ _ qz5).trans z50
          have z61 : w6.cell? ⟨w.heap.size, 1, none⟩ = some (.int .u32 0) := (hw6.cells _ _ qz5).trans z51
          have z62 : w6.cell? ⟨w.heap.size, 2, none⟩ = some (.int .u32 0) := (hw6.cells _ _ qz5).trans z52
          have z63 : w6.cell? ⟨w.heap.size, 3, none⟩ = some (.slice none 0 0) := (hw6.cells _ _ qz5).trans z53
          have z6f : ∀ o, w6.frozen? ⟨w.heap.size, o, none⟩ = false := fun o => (hw6.frozens _ _ qz5).trans (z5f o)
          have qz6 : w.heap.size < w6.heap.size := Nat.lt_of_lt_of_le qz5 hw6.size
          have hW6 : Within w w6 := hW5.trans hw6
          have HOW6 := Lib.hid ((HOW.out.of hw5).of hw6)
          cases sb
          · go_wp2
            have E := HER.out; have R := HRD.out
            simp at E; subst E; simp at R; subst R
            refine bodyPost_ret (v := .tuple #[.agg #[.int .i64 0, .int .u32 0, .int .u32 0, .slice none 0 0], .int .i64 211]) (by simp [results, Tryd.results23, go_sem, z60, z61, z62, z63]) rfl ⟨_, rfl, OwnF.nil_ _ _, (by repeat (first | with_reducible exact hW6 | with_reducible refine Within.setCell ?_ (Nat.le_refl _) _))⟩
          · go_wp2
            have E := HER.out; have R := HRD.out
            simp at E; subst E; simp at R; subst R
            refine bodyPost_ret (v := .tuple #[.agg #[.int .i64 (S : Int), .int .u32 (q : Int), .int .u32 (t : Int), .slice As vs.length cs], .int .i64 0]) (by simp [results, Tryd.results23, go_sem, z60, z61, z62, z63]) rfl ⟨_, rfl, ?_, (by repeat (first | with_reducible exact hW6 | with_reducible refine Within.setCell ?_ (Nat.le_refl _) _))⟩
            have hvv : vs = rdVals pf false k d := map_fin HVS.out HFE.out HFB.out
            rw [show (Rd.mk S q t (rdVals pf false k d)).vals = vs from hvv.symm]
            refine OwnF.less (base := w3.heap.size + 1) ?_ (Nat.le_of_lt hqz3)
            repeat (first | with_reducible exact HOW6.out | with_reducible refine OwnF.set ?_ hqz3 _)

end Go.Proofs.YtmpcnhiklpahnaaDoor
