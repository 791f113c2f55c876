/- Package binnacleref02: a number taken apart: walks. -/
import Derived.Test.YtifgngmebnjfkaaDoorBg9
import Derived.Test.YtifgngmebnjfkaaDoorSched
import Derived.Deep.DeepCutAuto
namespace Go.Proofs.YtifgngmebnjfkaaDoor
open Go.RowKit

/-- the numbers of a format -/
abbrev fmD : Value := .agg #[.int .i64 53, .int .i64 (-1022), .int .i64 1023, .int .i64 11]
/-- the numbers of a format -/
abbrev fmS : Value := .agg #[.int .i64 24, .int .i64 (-126), .int .i64 127, .int .i64 8]
theorem grown_cells {w w' : World} {z : Nat} (h : w.grownBy w' (some z)) : ∀ b o, b < w.heap.size → b ≠ z → w'.cell? ⟨b, o, none⟩ = w.cell? ⟨b, o, none⟩ := fun b o hb hne => World.cell?_of_block (w := w) (h.block b hb (fun e => hne (by injection e)))
theorem grown_frozens {w w' : World} {z : Nat} (h : w.grownBy w' (some z)) : ∀ b o, b < w.heap.size → b ≠ z → w'.frozen? ⟨b, o, none⟩ = w.frozen? ⟨b, o, none⟩ := fun b o hb hne => World.frozen?_of_block (w := w) (h.block b hb (fun e => hne (by injection e)))
theorem ty_new (w : World) (b : Bool) (s : Value) (z : Nat) (h : z = w.heap.size) : IntTy (w.alloc (.cells #[.bool b, s] 91)) z := by subst h; exact ⟨b, s, heap_alloc_new w _⟩
theorem hp_new (w : World) (o : Obj) (z : Nat) (h : z = w.heap.size) : (w.alloc o).heap[z]? = some o := by subst h; exact heap_alloc_new w _
theorem hp_alloc {w : World} {z : Nat} {u : Obj} (h : w.heap[z]? = some u) (o : Obj) : (w.alloc o).heap[z]? = some u := by
  obtain ⟨hlt, _⟩ := Array.getElem?_eq_some_iff.1 h
  exact (Below.heap_alloc w o z hlt).trans h
theorem hp_drew {w : World} {z : Nat} {u : Obj} (h : w.heap[z]? = some u) : w.drew.heap[z]? = some u := h
theorem hp_grown {w w' : World} {z n : Nat} {u : Obj} (hG : w.grownBy w' (some z)) (hne : n ≠ z) (h : w.heap[n]? = some u) : w'.heap[n]? = some u := by
  obtain ⟨hlt, _⟩ := Array.getElem?_eq_some_iff.1 h
  exact (hG.block n hlt (fun e => hne (by injection e))).trans h
theorem ty_alloc {w : World} {z : Nat} (h : IntTy w z) (o : Obj) : IntTy (w.alloc o) z := h.of ((Within.refl _).alloc _)
theorem ty_drew {w : World} {z : Nat} (h : IntTy w z) : IntTy w.drew z := h
/-- returned: the number with that field and that fraction -/
def TakeI (W : World) (top : Nat) (ng : Bool) (fr fd hid : Nat) (lo : Int) (e : Ending) (w' : World) : Prop :=
  ∃ g, e = .returned (.agg #[.int .i64 (if fd = top then (if fr = 0 then 1 else 2) else 0), .bool (if fd = top ∧ fr ≠ 0 then false else ng), .pointer (some ⟨g, 0, none⟩), .int .i64 (if fd = top then (if fr = 0 then lo else 0) else if fd = 0 then lo else (fd : Int) - 1 + lo)]) ∧
    IntB w' g ((if fd = top then 0 else if fd = 0 then fr else fr + hid : Nat) : Int) ∧ W.heap.size ≤ g ∧ Within W w'
/-- a number's memory, as the reference takes it apart -/
def NumCut (W0 : World) (v : Int) (ng : Bool) (e : Int) (s7 : Value) (wx : World) : Prop :=
  ∃ g n : Nat, s7 = .pointer (some ⟨n, 0, none⟩) ∧ wx.heap[n]? = some (.cells #[.int .i64 0, .bool ng, .pointer (some ⟨g, 0, none⟩), .int .i64 e] 26 (0, 0)) ∧ IntB wx g v ∧ W0.heap.size ≤ g ∧ W0.heap.size ≤ n ∧ g ≠ n ∧ Within W0 wx
theorem numCut_new {W0 w : World} {v : Int} {ng : Bool} {e : Int} {g : Nat} (h : IntB w g v) (hW : Within W0 w) (hg : W0.heap.size ≤ g) : NumCut W0 v ng e (.pointer (some ⟨w.heap.size, 0, none⟩)) (w.alloc (.cells #[.int .i64 0, .bool ng, .pointer (some ⟨g, 0, none⟩), .int .i64 e] 26)) :=
  ⟨g, _, rfl, heap_alloc_new w _, h.of ((Within.refl _).alloc _), hg, hW.sizes, Nat.ne_of_lt h.lt, hW.alloc _⟩
theorem IntB.setTy {w : World} {g n : Nat} {v : Int} {t : TypeId} {cs : Array Value} (h : IntB w g v) (hn : w.heap[n]? = some (.cells cs t (0, 0))) (ht : t ≠ 22) (hne : g ≠ n) {w' : World} (hb : ∀ k, k ≠ n → w'.heap[k]? = w.heap[k]?) : IntB w' g v := by
  obtain ⟨A, c, hb', hc, hr⟩ := h
  refine ⟨A, c, (hb _ hne).trans hb', hc, hr.of_block fun k m f hk => hb _ ?_⟩
  rintro rfl
  obtain ⟨cs', h1, _⟩ := hk
  rw [hn] at h1
  injection h1 with h1
  injection h1 with _ h2
  exact ht h2
theorem set4 {w : World} {n : Nat} {a b c d : Value} {t : TypeId} (h : w.heap[n]? = some (.cells #[a, b, c, d] t (0, 0))) (a' b' c' d' : Value) :
    ((((w.setCell ⟨n, 0, none⟩ a').setCell ⟨n, 1, none⟩ b').setCell ⟨n, 2, none⟩ c').setCell ⟨n, 3, none⟩ d').heap[n]? = some (.cells #[a', b', c', d'] t (0, 0)) := by
  simp [World.setCell, Array.getElem?_modify, h]
theorem set4_other {w : World} {n : Nat} (a' b' c' d' : Value) : ∀ k, k ≠ n →
    ((((w.setCell ⟨n, 0, none⟩ a').setCell ⟨n, 1, none⟩ b').setCell ⟨n, 2, none⟩ c').setCell ⟨n, 3, none⟩ d').heap[k]? = w.heap[k]? := by
  intro k hk
  rw [Below.heap_setCell _ _ _ _ hk, Below.heap_setCell _ _ _ _ hk, Below.heap_setCell _ _ _ _ hk, Below.heap_setCell _ _ _ _ hk]
def NumTy (w : World) (p : Nat) : Prop := ∃ cs, w.heap[p]? = some (.cells cs 26 (0, 0))
theorem NumTy.set {w : World} {p : Nat} (h : NumTy w p) (q : Addr) (u : Value) : NumTy (w.setCell q u) p := by
  obtain ⟨cs, h⟩ := h
  by_cases e : p = q.block
  · subst e; unfold NumTy; simp [World.setCell, Array.getElem?_modify, h]
  · exact ⟨cs, (Below.heap_setCell w q u p e).trans h⟩
theorem NumTy.lt {w : World} {p : Nat} (h : NumTy w p) : p < w.heap.size := by
  obtain ⟨cs, h⟩ := h
  obtain ⟨hlt, _⟩ := Array.getElem?_eq_some_iff.1 h
  exact hlt
theorem NumTy.alloc {w : World} {p : Nat} (h : NumTy w p) (o : Obj) : NumTy (w.alloc o) p := by
  have := h.lt
  obtain ⟨cs, h⟩ := h
  exact ⟨cs, (Below.heap_alloc w o p this).trans h⟩
theorem NumTy.grown {w w' : World} {p z : Nat} (h : NumTy w p) (hG : w.grownBy w' (some z)) (hne : p ≠ z) : NumTy w' p := by
  obtain ⟨cs, h⟩ := h
  exact ⟨cs, hp_grown hG hne h⟩
theorem IntB.setNum {w : World} {g : Nat} {v : Int} (h : IntB w g v) {p : Addr} (hne : g ≠ p.block) (ht : NumTy w p.block) (u : Value) : IntB (w.setCell p u) g v := by
  obtain ⟨cs, ht⟩ := ht
  exact h.setTy ht (by decide) hne (fun k hk => Below.heap_setCell w p u k hk)
theorem IntB.alloc {w : World} {g : Nat} {v : Int} (h : IntB w g v) (o : Obj) : IntB (w.alloc o) g v := h.of ((Within.refl _).alloc _)
theorem ib_new (w : World) (z : Nat) (h : z = w.heap.size) : IntB (w.alloc (.cells #[.bool false, .slice none 0 0] 91)) z 0 := by subst h; exact IntB.made w
theorem numCut_set {W0 w : World} {v : Int} {ng : Bool} {e : Int} {g n : Nat} {a b c d : Value} (h : IntB w g v) (hn : w.heap[n]? = some (.cells #[a, b, c, d] 26 (0, 0))) (hW : Within W0 w) (hg : W0.heap.size ≤ g) (hn2 : W0.heap.size ≤ n) (hne : g ≠ n) :
    NumCut W0 v ng e (.pointer (some ⟨n, 0, none⟩)) ((((w.setCell ⟨n, 0, none⟩ (.int .i64 0)).setCell ⟨n, 1, none⟩ (.bool ng)).setCell ⟨n, 2, none⟩ (.pointer (some ⟨g, 0, none⟩))).setCell ⟨n, 3, none⟩ (.int .i64 e)) :=
  ⟨g, n, rfl, set4 hn _ _ _ _, h.setTy hn (by decide) hne (set4_other _ _ _ _), hg, hn2, hne, (((hW.setCell hn2 _).setCell hn2 _).setCell hn2 _).setCell hn2 _⟩

set_option maxRecDepth 100000 in
set_option maxHeartbeats 600000 in
theorem takeD_0 (b fr fd : Nat) (hfr : fr < 4503599627370496) (hfd : fd < 2048) (e1 : bits .and .u64 (b : Int) 4503599627370495 = (fr : Int)) (e2 : bits .and .u64 ((b : Int) / 4503599627370496) 2047 = (fd : Int)) (e3 : bits .and .u64 ((b : Int) / 9223372036854775808) 1 = 0) (w : World) : Calls Tryd.prog 58 #[fmD, .int .u64 (b : Int)] w (TakeI w 2047 false fr fd 4503599627370496 (-1074)) := by
  have HF := Lib.hid (show fr < 18446744073709551616 by omega); have HFR := Lib.hid hfr; clear hfr
  have k0 : IntKind.i64.wrap 52 = 52 := by decide
  have k1 : IntKind.i64.wrap 63 = 63 := by decide
  have k2 : IntKind.u64.wrap 63 = 63 := by decide
  have k3 : IntKind.i64.wrap (-1075) = -1075 := by decide
  have k4 : IntKind.i64.wrap (-1074) = -1074 := by decide
  have k9 : (2 : Int) ^ min (Int.toNat 63) 64 = 9223372036854775808 := by decide
  go_enter Tryd.func58, Tryd.ntmps58
  go_upto_region 3 with fail
  go_cut [7] (fun s7 wx => NumCut ((w.alloc (.cells #[.int .i64 53, .int .i64 (-1022), .int .i64 1023, .int .i64 11] 84)).alloc (.cells #[.int .i64 0, .bool false, .pointer none, .int .i64 0] 26)) fr false (-1074) s7 wx)
  case first =>
    refine wp_region_schG (fun W => W.cell? ⟨w.heap.size, 0, none⟩ = some (.int .i64 (53)) ∧ W.cell? ⟨w.heap.size, 1, none⟩ = some (.int .i64 (-1022)) ∧ W.cell? ⟨w.heap.size, 3, none⟩ = some (.int .i64 (11)) ∧ Within ((w.alloc (.cells #[.int .i64 53, .int .i64 (-1022), .int .i64 1023, .int .i64 11] 84)).alloc (.cells #[.int .i64 0, .bool false, .pointer none, .int .i64 0] 26)) W) 22 (.firm 0 (.firm 1 (.firm 2 (.firm 3 (.firm 4 (.firm 5 (.firm 6 (.firm 7 (.firm 8 (.firm 9 (.firm 10 (.firm 12 (.firm 14 (.firm 15 (.firm 16 (.firm 17 (.firm 18 (.firm 19 (.two 11 (.two 13 (.firm 20 (.one 21 (.one 22 .nil))) 21 (.one 13 (.firm 20 (.one 22 .nil)))) 21 (.one 11 (.one 13 (.firm 20 (.one 22 .nil))))))))))))))))))))))) (by kernel_rfl) (by kernel_rfl) ⟨by go_simp, by go_simp, by go_simp, Within.refl _⟩ ?_
    rintro w0 ⟨c0, c1, c3, hw0⟩
    try simp only [Act.put, List.setIfInBounds_toArray, List.set_cons_zero, List.set_cons_succ]
    have hs0 : w.heap.size < w0.heap.size := by have := hw0.sizes; simp at this; omega
    repeat
      apply sch_firm rfl rfl (by repeat (first | with_reducible exact Within.refl _ | with_reducible assumption | with_reducible refine Within.alloc ?_ _ | with_reducible refine Within.drew ?_ | with_reducible refine Within.drewN ?_ _ | with_reducible refine Within.setCell ?_ (by first | (simp; done) | (simp; omega)) _ | with_reducible refine Within.trans ?_ (by assumption)))
      · intro wq hq
        have hcq := hq.cells
        clear hq
        go_simp
        first | rfl | (trace_state; fail)
      try simp only [Act.put, List.setIfInBounds_toArray, List.set_cons_zero, List.set_cons_succ]
    refine sch_two rfl rfl rfl rfl (fun K hK => ?_) (fun K hK => ?_)
    · go_simp
      refine hK _ _ (by repeat (first | with_reducible exact Within.refl _ | with_reducible assumption | with_reducible refine Within.alloc ?_ _ | with_reducible refine Within.drew ?_ | with_reducible refine Within.drewN ?_ _ | with_reducible refine Within.setCell ?_ (by first | (simp; done) | (simp; omega)) _ | with_reducible refine Within.trans ?_ (by assumption))) ?_
      clear hK K
      try simp only [Act.put, List.setIfInBounds_toArray, List.set_cons_zero, List.set_cons_succ]
      refine sch_two rfl rfl rfl rfl (fun K hK => ?_) (fun K hK => ?_)
      · go_simp
        refine (BsetUint64 _ fr HF.out _ (by repeat (first | exact ty_new _ _ _ _ (by simp; done) | refine ty_drew ?_ | refine ty_alloc ?_ _))).mono ?_; rintro e1 w1 ⟨rfl, hI, hG⟩
        have hb1 : Within w0 w1 := Within.grown (by repeat (first | with_reducible exact Within.refl _ | with_reducible assumption | with_reducible refine Within.alloc ?_ _ | with_reducible refine Within.drew ?_ | with_reducible refine Within.drewN ?_ _ | with_reducible refine Within.setCell ?_ (by first | (simp; done) | (simp; omega)) _ | with_reducible refine Within.trans ?_ (by assumption))) hG (by simp)
        have hcl := grown_cells hG; have hfz := grown_frozens hG
        refine hK _ _ (by repeat (first | with_reducible exact Within.refl _ | with_reducible assumption | with_reducible refine Within.alloc ?_ _ | with_reducible refine Within.drew ?_ | with_reducible refine Within.drewN ?_ _ | with_reducible refine Within.setCell ?_ (by first | (simp; done) | (simp; omega)) _ | with_reducible refine Within.trans ?_ (by assumption))) ?_
        clear hK K
        try simp only [Act.put, List.setIfInBounds_toArray, List.set_cons_zero, List.set_cons_succ]
        repeat
          apply sch_firm rfl rfl (by repeat (first | with_reducible exact Within.refl _ | with_reducible assumption | with_reducible refine Within.alloc ?_ _ | with_reducible refine Within.drew ?_ | with_reducible refine Within.drewN ?_ _ | with_reducible refine Within.setCell ?_ (by first | (simp; done) | (simp; omega)) _ | with_reducible refine Within.trans ?_ (by assumption)))
          · intro wq hq
            have hcq := hq.cells
            clear hq
            go_simp
            first | rfl | (trace_state; fail)
          try simp only [Act.put, List.setIfInBounds_toArray, List.set_cons_zero, List.set_cons_succ]
        refine sch_one rfl rfl (fun K hK => ?_)
        go_simp
        refine hK _ _ (fun _ => (by repeat (first | with_reducible exact Within.refl _ | with_reducible assumption | with_reducible refine Within.alloc ?_ _ | with_reducible refine Within.drew ?_ | with_reducible refine Within.drewN ?_ _ | with_reducible refine Within.setCell ?_ (by first | (simp; done) | (simp; omega)) _ | with_reducible refine Within.trans ?_ (by assumption)))) ?_
        clear hK K
        try simp only [Act.put, List.setIfInBounds_toArray, List.set_cons_zero, List.set_cons_succ]
        refine sch_one rfl rfl (fun K hK => ?_)
        go_simp
        refine hK _ _ (fun h => absurd h (by decide)) ?_
        clear hK K
        try simp only [Act.put, List.setIfInBounds_toArray, List.set_cons_zero, List.set_cons_succ]
        refine sch_nil ?_
        go_wp2_with fail
        go_meet
        exact numCut_new hI (hw0.trans hb1) (Nat.le_trans hw0.sizes (by simp))
      · go_simp
        refine hK _ _ (by repeat (first | with_reducible exact Within.refl _ | with_reducible assumption | with_reducible refine Within.alloc ?_ _ | with_reducible refine Within.drew ?_ | with_reducible refine Within.drewN ?_ _ | with_reducible refine Within.setCell ?_ (by first | (simp; done) | (simp; omega)) _ | with_reducible refine Within.trans ?_ (by assumption))) ?_
        clear hK K
        try simp only [Act.put, List.setIfInBounds_toArray, List.set_cons_zero, List.set_cons_succ]
        refine sch_one rfl rfl (fun K hK => ?_)
        go_simp
        refine (BsetUint64 _ fr HF.out _ (by repeat (first | exact ty_new _ _ _ _ (by simp; done) | refine ty_drew ?_ | refine ty_alloc ?_ _))).mono ?_; rintro e1 w1 ⟨rfl, hI, hG⟩
        have hb1 : Within w0 w1 := Within.grown (by repeat (first | with_reducible exact Within.refl _ | with_reducible assumption | with_reducible refine Within.alloc ?_ _ | with_reducible refine Within.drew ?_ | with_reducible refine Within.drewN ?_ _ | with_reducible refine Within.setCell ?_ (by first | (simp; done) | (simp; omega)) _ | with_reducible refine Within.trans ?_ (by assumption))) hG (by simp)
        have hcl := grown_cells hG; have hfz := grown_frozens hG
        refine hK _ _ (fun _ => (by repeat (first | with_reducible exact Within.refl _ | with_reducible assumption | with_reducible refine Within.alloc ?_ _ | with_reducible refine Within.drew ?_ | with_reducible refine Within.drewN ?_ _ | with_reducible refine Within.setCell ?_ (by first | (simp; done) | (simp; omega)) _ | with_reducible refine Within.trans ?_ (by assumption)))) ?_
        clear hK K
        try simp only [Act.put, List.setIfInBounds_toArray, List.set_cons_zero, List.set_cons_succ]
        repeat
          apply sch_firm rfl rfl (by repeat (first | with_reducible exact Within.refl _ | with_reducible assumption | with_reducible refine Within.alloc ?_ _ | with_reducible refine Within.drew ?_ | with_reducible refine Within.drewN ?_ _ | with_reducible refine Within.setCell ?_ (by first | (simp; done) | (simp; omega)) _ | with_reducible refine Within.trans ?_ (by assumption)))
          · intro wq hq
            have hcq := hq.cells
            clear hq
            go_simp
            first | rfl | (trace_state; fail)
          try simp only [Act.put, List.setIfInBounds_toArray, List.set_cons_zero, List.set_cons_succ]
        refine sch_one rfl rfl (fun K hK => ?_)
        go_simp
        refine hK _ _ (fun h => absurd h (by decide)) ?_
        clear hK K
        try simp only [Act.put, List.setIfInBounds_toArray, List.set_cons_zero, List.set_cons_succ]
        refine sch_nil ?_
        go_wp2_with fail
        go_meet
        exact numCut_set hI (hp_grown hG (by simp) (by repeat (first | exact hp_new _ _ _ (by simp; done) | refine hp_drew ?_ | refine hp_alloc ?_ _))) (hw0.trans hb1) (Nat.le_trans hw0.sizes (by simp)) (Nat.le_trans hw0.sizes (by simp)) (by simp)
    · go_simp
      refine hK _ _ (by repeat (first | with_reducible exact Within.refl _ | with_reducible assumption | with_reducible refine Within.alloc ?_ _ | with_reducible refine Within.drew ?_ | with_reducible refine Within.drewN ?_ _ | with_reducible refine Within.setCell ?_ (by first | (simp; done) | (simp; omega)) _ | with_reducible refine Within.trans ?_ (by assumption))) ?_
      clear hK K
      try simp only [Act.put, List.setIfInBounds_toArray, List.set_cons_zero, List.set_cons_succ]
      refine sch_one rfl rfl (fun K hK => ?_)
      go_simp
      refine hK _ _ (fun _ => (by repeat (first | with_reducible exact Within.refl _ | with_reducible assumption | with_reducible refine Within.alloc ?_ _ | with_reducible refine Within.drew ?_ | with_reducible refine Within.drewN ?_ _ | with_reducible refine Within.setCell ?_ (by first | (simp; done) | (simp; omega)) _ | with_reducible refine Within.trans ?_ (by assumption)))) ?_
      clear hK K
      try simp only [Act.put, List.setIfInBounds_toArray, List.set_cons_zero, List.set_cons_succ]
      refine sch_one rfl rfl (fun K hK => ?_)
      go_simp
      refine (BsetUint64 _ fr HF.out _ (by repeat (first | exact ty_new _ _ _ _ (by simp; done) | refine ty_drew ?_ | refine ty_alloc ?_ _))).mono ?_; rintro e1 w1 ⟨rfl, hI, hG⟩
      have hb1 : Within w0 w1 := Within.grown (by repeat (first | with_reducible exact Within.refl _ | with_reducible assumption | with_reducible refine Within.alloc ?_ _ | with_reducible refine Within.drew ?_ | with_reducible refine Within.drewN ?_ _ | with_reducible refine Within.setCell ?_ (by first | (simp; done) | (simp; omega)) _ | with_reducible refine Within.trans ?_ (by assumption))) hG (by simp)
      have hcl := grown_cells hG; have hfz := grown_frozens hG
      refine hK _ _ (fun _ => (by repeat (first | with_reducible exact Within.refl _ | with_reducible assumption | with_reducible refine Within.alloc ?_ _ | with_reducible refine Within.drew ?_ | with_reducible refine Within.drewN ?_ _ | with_reducible refine Within.setCell ?_ (by first | (simp; done) | (simp; omega)) _ | with_reducible refine Within.trans ?_ (by assumption)))) ?_
      clear hK K
      try simp only [Act.put, List.setIfInBounds_toArray, List.set_cons_zero, List.set_cons_succ]
      repeat
        apply sch_firm rfl rfl (by repeat (first | with_reducible exact Within.refl _ | with_reducible assumption | with_reducible refine Within.alloc ?_ _ | with_reducible refine Within.drew ?_ | with_reducible refine Within.drewN ?_ _ | with_reducible refine Within.setCell ?_ (by first | (simp; done) | (simp; omega)) _ | with_reducible refine Within.trans ?_ (by assumption)))
        · intro wq hq
          have hcq := hq.cells
          clear hq
          go_simp
          first | rfl | (trace_state; fail)
        try simp only [Act.put, List.setIfInBounds_toArray, List.set_cons_zero, List.set_cons_succ]
      refine sch_one rfl rfl (fun K hK => ?_)
      go_simp
      refine hK _ _ (fun h => absurd h (by decide)) ?_
      clear hK K
      try simp only [Act.put, List.setIfInBounds_toArray, List.set_cons_zero, List.set_cons_succ]
      refine sch_nil ?_
      go_wp2_with fail
      go_meet
      exact numCut_set hI (hp_grown hG (by simp) (by repeat (first | exact hp_new _ _ _ (by simp; done) | refine hp_drew ?_ | refine hp_alloc ?_ _))) (hw0.trans hb1) (Nat.le_trans hw0.sizes (by simp)) (Nat.le_trans hw0.sizes (by simp)) (by simp)
  case rest =>
    obtain ⟨g, n, rfl, hn, hI, hg, hn2, hne, hw⟩ := hcut
    have m0 : wc.cell? ⟨n, 0, none⟩ = some (.int .i64 0) := by simp [World.cell?, hn]
    have m1 : wc.cell? ⟨n, 1, none⟩ = some (.bool false) := by simp [World.cell?, hn]
    have m2 : wc.cell? ⟨n, 2, none⟩ = some (.pointer (some ⟨g, 0, none⟩)) := by simp [World.cell?, hn]
    have m3 : wc.cell? ⟨n, 3, none⟩ = some (.int .i64 (-1074)) := by simp [World.cell?, hn]
    have mf : ∀ o, wc.frozen? ⟨n, o, none⟩ = false := fun o => by simp [World.frozen?, hn]
    have x0 : wc.cell? ⟨w.heap.size, 0, none⟩ = some (.int .i64 (53)) := (hw.cells _ _ (by simp; omega)).trans (by go_simp)
    have x1 : wc.cell? ⟨w.heap.size, 1, none⟩ = some (.int .i64 (-1022)) := (hw.cells _ _ (by simp; omega)).trans (by go_simp)
    have x3 : wc.cell? ⟨w.heap.size, 3, none⟩ = some (.int .i64 (11)) := (hw.cells _ _ (by simp; omega)).trans (by go_simp)
    have r0 : wc.cell? ⟨w.heap.size + 1, 0, none⟩ = some (.int .i64 0) := (hw.cells _ _ (by simp)).trans (by go_simp)
    have r1 : wc.cell? ⟨w.heap.size + 1, 1, none⟩ = some (.bool false) := (hw.cells _ _ (by simp)).trans (by go_simp)
    have r2 : wc.cell? ⟨w.heap.size + 1, 2, none⟩ = some (.pointer none) := (hw.cells _ _ (by simp)).trans (by go_simp)
    have r3 : wc.cell? ⟨w.heap.size + 1, 3, none⟩ = some (.int .i64 0) := (hw.cells _ _ (by simp)).trans (by go_simp)
    have rf : ∀ o, wc.frozen? ⟨w.heap.size + 1, o, none⟩ = false := fun o => (hw.frozens _ _ (by simp)).trans (by go_simp)
    have hT := Lib.hid hI.ty; have hlg := hI.lt
    have hln : n < wc.heap.size := World.block_lt_of_cell? wc _ m0; have hl1 : w.heap.size + 1 < wc.heap.size := World.block_lt_of_cell? wc _ r0; have hl0 : w.heap.size < wc.heap.size := by omega
    have hn3 : w.heap.size + 2 ≤ n := by simp at hn2; omega
    have hg3 : w.heap.size + 2 ≤ g := by simp at hg; omega
    have q1 : ¬ (w.heap.size + 1 = n) := by omega
    have q2 : ¬ (n = w.heap.size + 1) := by omega
    have q3 : ¬ (w.heap.size = n) := by omega
    have q4 : ¬ (n = w.heap.size) := by omega
    have q5 : ¬ (w.heap.size + 1 = g) := by omega
    have q6 : ¬ (w.heap.size = g) := by omega
    have q7 : ¬ (n = g) := fun h => hne h.symm
    have q8 : ¬ (g = n) := hne
    have tn : NumTy wc n := ⟨_, hn⟩
    have tr : NumTy wc (w.heap.size + 1) := ⟨_, (hw.block _ (by simp)).trans (hp_new _ _ _ (by simp))⟩
    have HI := Lib.hid hI; have HW := Lib.hid hw; have HG := Lib.hid hg3; have HN := Lib.hid hn
    have hww := (Within.refl w).alloc (.cells #[.int .i64 53, .int .i64 (-1022), .int .i64 1023, .int .i64 11] 84)
    have HWW : Hid (Within w wc) := Lib.hid (((Within.refl w).alloc _ |>.alloc _).trans hw)
    clear hn hn2 hg hI hw hww
    by_cases hF : fd = 2047
    · subst hF
      by_cases hr : fr = 0
      · subst hr
        go_wp2
        have hI : IntB wc g 0 := HI.out
        have hWW := HWW.out
        refine bodyPost_ret (v := .agg #[.int .i64 1, .bool false, .pointer (some ⟨g, 0, none⟩), .int .i64 (-1074)]) (by simp [results, Tryd.results58, go_sem, r0, r1, r2, r3, q1, q2, hl1]) rfl ?_
        refine ⟨g, ?_, ?_, ?_, ?_⟩
        · simp
        · simp; exact (by repeat (first | with_reducible assumption | with_reducible exact ib_new _ _ (by simp; done) | with_reducible refine IntB.setNum ?_ (by first | assumption | (simp; omega)) (by repeat (first | with_reducible assumption | with_reducible refine NumTy.set ?_ _ _ | with_reducible refine NumTy.alloc ?_ _)) _ | with_reducible refine IntB.alloc ?_ _))
        · omega
        · exact (by repeat (first | with_reducible exact Within.refl _ | with_reducible assumption | with_reducible refine Within.alloc ?_ _ | with_reducible refine Within.drew ?_ | with_reducible refine Within.drewN ?_ _ | with_reducible refine Within.setCell ?_ (by first | (simp; done) | (simp; omega)) _ | with_reducible refine Within.trans ?_ (by assumption)))
      · have d1 : ((fr : Int) != 0) = true := bne_iff_ne.2 (by omega)
        have HR := Lib.hid hr; clear hr
        go_wp2
        have hWW := HWW.out
        refine bodyPost_ret (v := .agg #[.int .i64 2, .bool false, .pointer (some ⟨wc.heap.size, 0, none⟩), .int .i64 (0)]) (by simp [results, Tryd.results58, go_sem, r0, r1, r2, r3, q1, q2, hl1]) rfl ?_
        refine ⟨wc.heap.size, ?_, ?_, ?_, ?_⟩
        · simp [HR.out]
        · simp [HR.out]; exact (by repeat (first | with_reducible assumption | with_reducible exact ib_new _ _ (by simp; done) | with_reducible refine IntB.setNum ?_ (by first | assumption | (simp; omega)) (by repeat (first | with_reducible assumption | with_reducible refine NumTy.set ?_ _ _ | with_reducible refine NumTy.alloc ?_ _)) _ | with_reducible refine IntB.alloc ?_ _))
        · omega
        · exact (by repeat (first | with_reducible exact Within.refl _ | with_reducible assumption | with_reducible refine Within.alloc ?_ _ | with_reducible refine Within.drew ?_ | with_reducible refine Within.drewN ?_ _ | with_reducible refine Within.setCell ?_ (by first | (simp; done) | (simp; omega)) _ | with_reducible refine Within.trans ?_ (by assumption)))
    · have d1 : True → ((fd : Int) == 2047) = false := fun _ => beq_eq_false_iff_ne.2 (by omega)
      have HF2 := Lib.hid hF; clear hF
      by_cases h0 : fd = 0
      · subst h0
        go_wp2
        have hI := HI.out; have hWW := HWW.out
        refine bodyPost_ret (v := .agg #[.int .i64 0, .bool false, .pointer (some ⟨g, 0, none⟩), .int .i64 (-1074)]) (by simp [results, Tryd.results58, go_sem, r0, r1, r2, r3, q1, q2, hl1]) rfl ?_
        refine ⟨g, ?_, ?_, ?_, ?_⟩
        · simp
        · simp; exact (by repeat (first | with_reducible assumption | with_reducible exact ib_new _ _ (by simp; done) | with_reducible refine IntB.setNum ?_ (by first | assumption | (simp; omega)) (by repeat (first | with_reducible assumption | with_reducible refine NumTy.set ?_ _ _ | with_reducible refine NumTy.alloc ?_ _)) _ | with_reducible refine IntB.alloc ?_ _))
        · omega
        · exact (by repeat (first | with_reducible exact Within.refl _ | with_reducible assumption | with_reducible refine Within.alloc ?_ _ | with_reducible refine Within.drew ?_ | with_reducible refine Within.drewN ?_ _ | with_reducible refine Within.setCell ?_ (by first | (simp; done) | (simp; omega)) _ | with_reducible refine Within.trans ?_ (by assumption)))
      · have hp : 0 < fd := by omega
        have gor : bits .or .u64 (fr : Int) 4503599627370496 = ((fr + 4503599627370496 : Nat) : Int) := by have := HFR.out; rw [show (4503599627370496 : Int) = ((4503599627370496 : Nat) : Int) from rfl, u64_or_nat _ _ (by omega) (by decide), Nat.or_comm, nat_join 52 _ _ (by decide) HFR.out, Nat.add_comm]
        have HR := Lib.hid h0; clear h0
        go_wp2_with fail
        refine (BsetUint64 g (fr + 4503599627370496) (by have := HFR.out; omega) wc hT.out).mono ?_; rintro e2 w2 ⟨rfl, hI2, hG2⟩
        have hcl := grown_cells hG2; have hfz := grown_frozens hG2; have hsz := hG2.size
        have r0 := (hcl _ 0 hl1 q5).trans r0; have r1 := (hcl _ 1 hl1 q5).trans r1; have r2 := (hcl _ 2 hl1 q5).trans r2; have r3 := (hcl _ 3 hl1 q5).trans r3
        have tn2 := tn.grown hG2 q7; have tr2 := tr.grown hG2 q5
        have hl2 : n < w2.heap.size := by omega
        have HW2 : Hid (Within w w2) := Lib.hid (Within.grown HWW.out hG2 (by omega))
        go_wp2
        have hI : IntB w2 g ((fr : Int) + 4503599627370496) := by have := hI2; simpa using this
        have hWW := HW2.out
        refine bodyPost_ret (v := .agg #[.int .i64 0, .bool false, .pointer (some ⟨g, 0, none⟩), .int .i64 ((fd : Int) - 1 + (-1022) - 53 + 1)]) (by simp [results, Tryd.results58, go_sem, r0, r1, r2, r3, q1, q2, hl1]) rfl ?_
        refine ⟨g, ?_, ?_, ?_, ?_⟩
        · simp [HF2.out, HR.out]; omega
        · simp [HF2.out, HR.out]; exact (by repeat (first | with_reducible assumption | with_reducible exact ib_new _ _ (by simp; done) | with_reducible refine IntB.setNum ?_ (by first | assumption | (simp; omega)) (by repeat (first | with_reducible assumption | with_reducible refine NumTy.set ?_ _ _ | with_reducible refine NumTy.alloc ?_ _)) _ | with_reducible refine IntB.alloc ?_ _))
        · omega
        · exact (by repeat (first | with_reducible exact Within.refl _ | with_reducible assumption | with_reducible refine Within.alloc ?_ _ | with_reducible refine Within.drew ?_ | with_reducible refine Within.drewN ?_ _ | with_reducible refine Within.setCell ?_ (by first | (simp; done) | (simp; omega)) _ | with_reducible refine Within.trans ?_ (by assumption)))

set_option maxRecDepth 100000 in
set_option maxHeartbeats 600000 in
theorem takeD_1 (b fr fd : Nat) (hfr : fr < 4503599627370496) (hfd : fd < 2048) (e1 : bits .and .u64 (b : Int) 4503599627370495 = (fr : Int)) (e2 : bits .and .u64 ((b : Int) / 4503599627370496) 2047 = (fd : Int)) (e3 : bits .and .u64 ((b : Int) / 9223372036854775808) 1 = 1) (w : World) : Calls Tryd.prog 58 #[fmD, .int .u64 (b : Int)] w (TakeI w 2047 true fr fd 4503599627370496 (-1074)) := by
  have HF := Lib.hid (show fr < 18446744073709551616 by omega); have HFR := Lib.hid hfr; clear hfr
  have k0 : IntKind.i64.wrap 52 = 52 := by decide
  have k1 : IntKind.i64.wrap 63 = 63 := by decide
  have k2 : IntKind.u64.wrap 63 = 63 := by decide
  have k3 : IntKind.i64.wrap (-1075) = -1075 := by decide
  have k4 : IntKind.i64.wrap (-1074) = -1074 := by decide
  have k9 : (2 : Int) ^ min (Int.toNat 63) 64 = 9223372036854775808 := by decide
  go_enter Tryd.func58, Tryd.ntmps58
  go_upto_region 3 with fail
  go_cut [7] (fun s7 wx => NumCut ((w.alloc (.cells #[.int .i64 53, .int .i64 (-1022), .int .i64 1023, .int .i64 11] 84)).alloc (.cells #[.int .i64 0, .bool false, .pointer none, .int .i64 0] 26)) fr true (-1074) s7 wx)
  case first =>
    refine wp_region_schG (fun W => W.cell? ⟨w.heap.size, 0, none⟩ = some (.int .i64 (53)) ∧ W.cell? ⟨w.heap.size, 1, none⟩ = some (.int .i64 (-1022)) ∧ W.cell? ⟨w.heap.size, 3, none⟩ = some (.int .i64 (11)) ∧ Within ((w.alloc (.cells #[.int .i64 53, .int .i64 (-1022), .int .i64 1023, .int .i64 11] 84)).alloc (.cells #[.int .i64 0, .bool false, .pointer none, .int .i64 0] 26)) W) 22 (.firm 0 (.firm 1 (.firm 2 (.firm 3 (.firm 4 (.firm 5 (.firm 6 (.firm 7 (.firm 8 (.firm 9 (.firm 10 (.firm 12 (.firm 14 (.firm 15 (.firm 16 (.firm 17 (.firm 18 (.firm 19 (.two 11 (.two 13 (.firm 20 (.one 21 (.one 22 .nil))) 21 (.one 13 (.firm 20 (.one 22 .nil)))) 21 (.one 11 (.one 13 (.firm 20 (.one 22 .nil))))))))))))))))))))))) (by kernel_rfl) (by kernel_rfl) ⟨by go_simp, by go_simp, by go_simp, Within.refl _⟩ ?_
    rintro w0 ⟨c0, c1, c3, hw0⟩
    try simp only [Act.put, List.setIfInBounds_toArray, List.set_cons_zero, List.set_cons_succ]
    have hs0 : w.heap.size < w0.heap.size := by have := hw0.sizes; simp at this; omega
    repeat
      apply sch_firm rfl rfl (by repeat (first | with_reducible exact Within.refl _ | with_reducible assumption | with_reducible refine Within.alloc ?_ _ | with_reducible refine Within.drew ?_ | with_reducible refine Within.drewN ?_ _ | with_reducible refine Within.setCell ?_ (by first | (simp; done) | (simp; omega)) _ | with_reducible refine Within.trans ?_ (by assumption)))
      · intro wq hq
        have hcq := hq.cells
        clear hq
        go_simp
        first | rfl | (trace_state; fail)
      try simp only [Act.put, List.setIfInBounds_toArray, List.set_cons_zero, List.set_cons_succ]
    refine sch_two rfl rfl rfl rfl (fun K hK => ?_) (fun K hK => ?_)
    · go_simp
      refine hK _ _ (by repeat (first | with_reducible exact Within.refl _ | with_reducible assumption | with_reducible refine Within.alloc ?_ _ | with_reducible refine Within.drew ?_ | with_reducible refine Within.drewN ?_ _ | with_reducible refine Within.setCell ?_ (by first | (simp; done) | (simp; omega)) _ | with_reducible refine Within.trans ?_ (by assumption))) ?_
      clear hK K
      try simp only [Act.put, List.setIfInBounds_toArray, List.set_cons_zero, List.set_cons_succ]
      refine sch_two rfl rfl rfl rfl (fun K hK => ?_) (fun K hK => ?_)
      · go_simp
        refine (BsetUint64 _ fr HF.out _ (by repeat (first | exact ty_new _ _ _ _ (by simp; done) | refine ty_drew ?_ | refine ty_alloc ?_ _))).mono ?_; rintro e1 w1 ⟨rfl, hI, hG⟩
        have hb1 : Within w0 w1 := Within.grown (by repeat (first | with_reducible exact Within.refl _ | with_reducible assumption | with_reducible refine Within.alloc ?_ _ | with_reducible refine Within.drew ?_ | with_reducible refine Within.drewN ?_ _ | with_reducible refine Within.setCell ?_ (by first | (simp; done) | (simp; omega)) _ | with_reducible refine Within.trans ?_ (by assumption))) hG (by simp)
        have hcl := grown_cells hG; have hfz := grown_frozens hG
        refine hK _ _ (by repeat (first | with_reducible exact Within.refl _ | with_reducible assumption | with_reducible refine Within.alloc ?_ _ | with_reducible refine Within.drew ?_ | with_reducible refine Within.drewN ?_ _ | with_reducible refine Within.setCell ?_ (by first | (simp; done) | (simp; omega)) _ | with_reducible refine Within.trans ?_ (by assumption))) ?_
        clear hK K
        try simp only [Act.put, List.setIfInBounds_toArray, List.set_cons_zero, List.set_cons_succ]
        repeat
          apply sch_firm rfl rfl (by repeat (first | with_reducible exact Within.refl _ | with_reducible assumption | with_reducible refine Within.alloc ?_ _ | with_reducible refine Within.drew ?_ | with_reducible refine Within.drewN ?_ _ | with_reducible refine Within.setCell ?_ (by first | (simp; done) | (simp; omega)) _ | with_reducible refine Within.trans ?_ (by assumption)))
          · intro wq hq
            have hcq := hq.cells
            clear hq
            go_simp
            first | rfl | (trace_state; fail)
          try simp only [Act.put, List.setIfInBounds_toArray, List.set_cons_zero, List.set_cons_succ]
        refine sch_one rfl rfl (fun K hK => ?_)
        go_simp
        refine hK _ _ (fun _ => (by repeat (first | with_reducible exact Within.refl _ | with_reducible assumption | with_reducible refine Within.alloc ?_ _ | with_reducible refine Within.drew ?_ | with_reducible refine Within.drewN ?_ _ | with_reducible refine Within.setCell ?_ (by first | (simp; done) | (simp; omega)) _ | with_reducible refine Within.trans ?_ (by assumption)))) ?_
        clear hK K
        try simp only [Act.put, List.setIfInBounds_toArray, List.set_cons_zero, List.set_cons_succ]
        refine sch_one rfl rfl (fun K hK => ?_)
        go_simp
        refine hK _ _ (fun h => absurd h (by decide)) ?_
        clear hK K
        try simp only [Act.put, List.setIfInBounds_toArray, List.set_cons_zero, List.set_cons_succ]
        refine sch_nil ?_
        go_wp2_with fail
        go_meet
        exact numCut_new hI (hw0.trans hb1) (Nat.le_trans hw0.sizes (by simp))
      · go_simp
        refine hK _ _ (by repeat (first | with_reducible exact Within.refl _ | with_reducible assumption | with_reducible refine Within.alloc ?_ _ | with_reducible refine Within.drew ?_ | with_reducible refine Within.drewN ?_ _ | with_reducible refine Within.setCell ?_ (by first | (simp; done) | (simp; omega)) _ | with_reducible refine Within.trans ?_ (by assumption))) ?_
        clear hK K
        try simp only [Act.put, List.setIfInBounds_toArray, List.set_cons_zero, List.set_cons_succ]
        refine sch_one rfl rfl (fun K hK => ?_)
        go_simp
        refine (BsetUint64 _ fr HF.out _ (by repeat (first | exact ty_new _ _ _ _ (by simp; done) | refine ty_drew ?_ | refine ty_alloc ?_ _))).mono ?_; rintro e1 w1 ⟨rfl, hI, hG⟩
        have hb1 : Within w0 w1 := Within.grown (by repeat (first | with_reducible exact Within.refl _ | with_reducible assumption | with_reducible refine Within.alloc ?_ _ | with_reducible refine Within.drew ?_ | with_reducible refine Within.drewN ?_ _ | with_reducible refine Within.setCell ?_ (by first | (simp; done) | (simp; omega)) _ | with_reducible refine Within.trans ?_ (by assumption))) hG (by simp)
        have hcl := grown_cells hG; have hfz := grown_frozens hG
        refine hK _ _ (fun _ => (by repeat (first | with_reducible exact Within.refl _ | with_reducible assumption | with_reducible refine Within.alloc ?_ _ | with_reducible refine Within.drew ?_ | with_reducible refine Within.drewN ?_ _ | with_reducible refine Within.setCell ?_ (by first | (simp; done) | (simp; omega)) _ | with_reducible refine Within.trans ?_ (by assumption)))) ?_
        clear hK K
        try simp only [Act.put, List.setIfInBounds_toArray, List.set_cons_zero, List.set_cons_succ]
        repeat
          apply sch_firm rfl rfl (by repeat (first | with_reducible exact Within.refl _ | with_reducible assumption | with_reducible refine Within.alloc ?_ _ | with_reducible refine Within.drew ?_ | with_reducible refine Within.drewN ?_ _ | with_reducible refine Within.setCell ?_ (by first | (simp; done) | (simp; omega)) _ | with_reducible refine Within.trans ?_ (by assumption)))
          · intro wq hq
            have hcq := hq.cells
            clear hq
            go_simp
            first | rfl | (trace_state; fail)
          try simp only [Act.put, List.setIfInBounds_toArray, List.set_cons_zero, List.set_cons_succ]
        refine sch_one rfl rfl (fun K hK => ?_)
        go_simp
        refine hK _ _ (fun h => absurd h (by decide)) ?_
        clear hK K
        try simp only [Act.put, List.setIfInBounds_toArray, List.set_cons_zero, List.set_cons_succ]
        refine sch_nil ?_
        go_wp2_with fail
        go_meet
        exact numCut_set hI (hp_grown hG (by simp) (by repeat (first | exact hp_new _ _ _ (by simp; done) | refine hp_drew ?_ | refine hp_alloc ?_ _))) (hw0.trans hb1) (Nat.le_trans hw0.sizes (by simp)) (Nat.le_trans hw0.sizes (by simp)) (by simp)
    · go_simp
      refine hK _ _ (by repeat (first | with_reducible exact Within.refl _ | with_reducible assumption | with_reducible refine Within.alloc ?_ _ | with_reducible refine Within.drew ?_ | with_reducible refine Within.drewN ?_ _ | with_reducible refine Within.setCell ?_ (by first | (simp; done) | (simp; omega)) _ | with_reducible refine Within.trans ?_ (by assumption))) ?_
      clear hK K
      try simp only [Act.put, List.setIfInBounds_toArray, List.set_cons_zero, List.set_cons_succ]
      refine sch_one rfl rfl (fun K hK => ?_)
      go_simp
      refine hK _ _ (fun _ => (by repeat (first | with_reducible exact Within.refl _ | with_reducible assumption | with_reducible refine Within.alloc ?_ _ | with_reducible refine Within.drew ?_ | with_reducible refine Within.drewN ?_ _ | with_reducible refine Within.setCell ?_ (by first | (simp; done) | (simp; omega)) _ | with_reducible refine Within.trans ?_ (by assumption)))) ?_
      clear hK K
      try simp only [Act.put, List.setIfInBounds_toArray, List.set_cons_zero, List.set_cons_succ]
      refine sch_one rfl rfl (fun K hK => ?_)
      go_simp
      refine (BsetUint64 _ fr HF.out _ (by repeat (first | exact ty_new _ _ _ _ (by simp; done) | refine ty_drew ?_ | refine ty_alloc ?_ _))).mono ?_; rintro e1 w1 ⟨rfl, hI, hG⟩
      have hb1 : Within w0 w1 := Within.grown (by repeat (first | with_reducible exact Within.refl _ | with_reducible assumption | with_reducible refine Within.alloc ?_ _ | with_reducible refine Within.drew ?_ | with_reducible refine Within.drewN ?_ _ | with_reducible refine Within.setCell ?_ (by first | (simp; done) | (simp; omega)) _ | with_reducible refine Within.trans ?_ (by assumption))) hG (by simp)
      have hcl := grown_cells hG; have hfz := grown_frozens hG
      refine hK _ _ (fun _ => (by repeat (first | with_reducible exact Within.refl _ | with_reducible assumption | with_reducible refine Within.alloc ?_ _ | with_reducible refine Within.drew ?_ | with_reducible refine Within.drewN ?_ _ | with_reducible refine Within.setCell ?_ (by first | (simp; done) | (simp; omega)) _ | with_reducible refine Within.trans ?_ (by assumption)))) ?_
      clear hK K
      try simp only [Act.put, List.setIfInBounds_toArray, List.set_cons_zero, List.set_cons_succ]
      repeat
        apply sch_firm rfl rfl (by repeat (first | with_reducible exact Within.refl _ | with_reducible assumption | with_reducible refine Within.alloc ?_ _ | with_reducible refine Within.drew ?_ | with_reducible refine Within.drewN ?_ _ | with_reducible refine Within.setCell ?_ (by first | (simp; done) | (simp; omega)) _ | with_reducible refine Within.trans ?_ (by assumption)))
        · intro wq hq
          have hcq := hq.cells
          clear hq
          go_simp
          first | rfl | (trace_state; fail)
        try simp only [Act.put, List.setIfInBounds_toArray, List.set_cons_zero, List.set_cons_succ]
      refine sch_one rfl rfl (fun K hK => ?_)
      go_simp
      refine hK _ _ (fun h => absurd h (by decide)) ?_
      clear hK K
      try simp only [Act.put, List.setIfInBounds_toArray, List.set_cons_zero, List.set_cons_succ]
      refine sch_nil ?_
      go_wp2_with fail
      go_meet
      exact numCut_set hI (hp_grown hG (by simp) (by repeat (first | exact hp_new _ _ _ (by simp; done) | refine hp_drew ?_ | refine hp_alloc ?_ _))) (hw0.trans hb1) (Nat.le_trans hw0.sizes (by simp)) (Nat.le_trans hw0.sizes (by simp)) (by simp)
  case rest =>
    obtain ⟨g, n, rfl, hn, hI, hg, hn2, hne, hw⟩ := hcut
    have m0 : wc.cell? ⟨n, 0, none⟩ = some (.int .i64 0) := by simp [World.cell?, hn]
    have m1 : wc.cell? ⟨n, 1, none⟩ = some (.bool true) := by simp [World.cell?, hn]
    have m2 : wc.cell? ⟨n, 2, none⟩ = some (.pointer (some ⟨g, 0, none⟩)) := by simp [World.cell?, hn]
    have m3 : wc.cell? ⟨n, 3, none⟩ = some (.int .i64 (-1074)) := by simp [World.cell?, hn]
    have mf : ∀ o, wc.frozen? ⟨n, o, none⟩ = false := fun o => by simp [World.frozen?, hn]
    have x0 : wc.cell? ⟨w.heap.size, 0, none⟩ = some (.int .i64 (53)) := (hw.cells _ _ (by simp; omega)).trans (by go_simp)
    have x1 : wc.cell? ⟨w.heap.size, 1, none⟩ = some (.int .i64 (-1022)) := (hw.cells _ _ (by simp; omega)).trans (by go_simp)
    have x3 : wc.cell? ⟨w.heap.size, 3, none⟩ = some (.int .i64 (11)) := (hw.cells _ _ (by simp; omega)).trans (by go_simp)
    have r0 : wc.cell? ⟨w.heap.size + 1, 0, none⟩ = some (.int .i64 0) := (hw.cells _ _ (by simp)).trans (by go_simp)
    have r1 : wc.cell? ⟨w.heap.size + 1, 1, none⟩ = some (.bool false) := (hw.cells _ _ (by simp)).trans (by go_simp)
    have r2 : wc.cell? ⟨w.heap.size + 1, 2, none⟩ = some (.pointer none) := (hw.cells _ _ (by simp)).trans (by go_simp)
    have r3 : wc.cell? ⟨w.heap.size + 1, 3, none⟩ = some (.int .i64 0) := (hw.cells _ _ (by simp)).trans (by go_simp)
    have rf : ∀ o, wc.frozen? ⟨w.heap.size + 1, o, none⟩ = false := fun o => (hw.frozens _ _ (by simp)).trans (by go_simp)
    have hT := Lib.hid hI.ty; have hlg := hI.lt
    have hln : n < wc.heap.size := World.block_lt_of_cell? wc _ m0; have hl1 : w.heap.size + 1 < wc.heap.size := World.block_lt_of_cell? wc _ r0; have hl0 : w.heap.size < wc.heap.size := by omega
    have hn3 : w.heap.size + 2 ≤ n := by simp at hn2; omega
    have hg3 : w.heap.size + 2 ≤ g := by simp at hg; omega
    have q1 : ¬ (w.heap.size + 1 = n) := by omega
    have q2 : ¬ (n = w.heap.size + 1) := by omega
    have q3 : ¬ (w.heap.size = n) := by omega
    have q4 : ¬ (n = w.heap.size) := by omega
    have q5 : ¬ (w.heap.size + 1 = g) := by omega
    have q6 : ¬ (w.heap.size = g) := by omega
    have q7 : ¬ (n = g) := fun h => hne h.symm
    have q8 : ¬ (g = n) := hne
    have tn : NumTy wc n := ⟨_, hn⟩
    have tr : NumTy wc (w.heap.size + 1) := ⟨_, (hw.block _ (by simp)).trans (hp_new _ _ _ (by simp))⟩
    have HI := Lib.hid hI; have HW := Lib.hid hw; have HG := Lib.hid hg3; have HN := Lib.hid hn
    have hww := (Within.refl w).alloc (.cells #[.int .i64 53, .int .i64 (-1022), .int .i64 1023, .int .i64 11] 84)
    have HWW : Hid (Within w wc) := Lib.hid (((Within.refl w).alloc _ |>.alloc _).trans hw)
    clear hn hn2 hg hI hw hww
    by_cases hF : fd = 2047
    · subst hF
      by_cases hr : fr = 0
      · subst hr
        go_wp2
        have hI : IntB wc g 0 := HI.out
        have hWW := HWW.out
        refine bodyPost_ret (v := .agg #[.int .i64 1, .bool true, .pointer (some ⟨g, 0, none⟩), .int .i64 (-1074)]) (by simp [results, Tryd.results58, go_sem, r0, r1, r2, r3, q1, q2, hl1]) rfl ?_
        refine ⟨g, ?_, ?_, ?_, ?_⟩
        · simp
        · simp; exact (by repeat (first | with_reducible assumption | with_reducible exact ib_new _ _ (by simp; done) | with_reducible refine IntB.setNum ?_ (by first | assumption | (simp; omega)) (by repeat (first | with_reducible assumption | with_reducible refine NumTy.set ?_ _ _ | with_reducible refine NumTy.alloc ?_ _)) _ | with_reducible refine IntB.alloc ?_ _))
        · omega
        · exact (by repeat (first | with_reducible exact Within.refl _ | with_reducible assumption | with_reducible refine Within.alloc ?_ _ | with_reducible refine Within.drew ?_ | with_reducible refine Within.drewN ?_ _ | with_reducible refine Within.setCell ?_ (by first | (simp; done) | (simp; omega)) _ | with_reducible refine Within.trans ?_ (by assumption)))
      · have d1 : ((fr : Int) != 0) = true := bne_iff_ne.2 (by omega)
        have HR := Lib.hid hr; clear hr
        go_wp2
        have hWW := HWW.out
        refine bodyPost_ret (v := .agg #[.int .i64 2, .bool false, .pointer (some ⟨wc.heap.size, 0, none⟩), .int .i64 (0)]) (by simp [results, Tryd.results58, go_sem, r0, r1, r2, r3, q1, q2, hl1]) rfl ?_
        refine ⟨wc.heap.size, ?_, ?_, ?_, ?_⟩
        · simp [HR.out]
        · simp [HR.out]; exact (by repeat (first | with_reducible assumption | with_reducible exact ib_new _ _ (by simp; done) | with_reducible refine IntB.setNum ?_ (by first | assumption | (simp; omega)) (by repeat (first | with_reducible assumption | with_reducible refine NumTy.set ?_ _ _ | with_reducible refine NumTy.alloc ?_ _)) _ | with_reducible refine IntB.alloc ?_ _))
        · omega
        · exact (by repeat (first | with_reducible exact Within.refl _ | with_reducible assumption | with_reducible refine Within.alloc ?_ _ | with_reducible refine Within.drew ?_ | with_reducible refine Within.drewN ?_ _ | with_reducible refine Within.setCell ?_ (by first | (simp; done) | (simp; omega)) _ | with_reducible refine Within.trans ?_ (by assumption)))
    · have d1 : True → ((fd : Int) == 2047) = false := fun _ => beq_eq_false_iff_ne.2 (by omega)
      have HF2 := Lib.hid hF; clear hF
      by_cases h0 : fd = 0
      · subst h0
        go_wp2
        have hI := HI.out; have hWW := HWW.out
        refine bodyPost_ret (v := .agg #[.int .i64 0, .bool true, .pointer (some ⟨g, 0, none⟩), .int .i64 (-1074)]) (by simp [results, Tryd.results58, go_sem, r0, r1, r2, r3, q1, q2, hl1]) rfl ?_
        refine ⟨g, ?_, ?_, ?_, ?_⟩
        · simp
        · simp; exact (by repeat (first | with_reducible assumption | with_reducible exact ib_new _ _ (by simp; done) | with_reducible refine IntB.setNum ?_ (by first | assumption | (simp; omega)) (by repeat (first | with_reducible assumption | with_reducible refine NumTy.set ?_ _ _ | with_reducible refine NumTy.alloc ?_ _)) _ | with_reducible refine IntB.alloc ?_ _))
        · omega
        · exact (by repeat (first | with_reducible exact Within.refl _ | with_reducible assumption | with_reducible refine Within.alloc ?_ _ | with_reducible refine Within.drew ?_ | with_reducible refine Within.drewN ?_ _ | with_reducible refine Within.setCell ?_ (by first | (simp; done) | (simp; omega)) _ | with_reducible refine Within.trans ?_ (by assumption)))
      · have hp : 0 < fd := by omega
        have gor : bits .or .u64 (fr : Int) 4503599627370496 = ((fr + 4503599627370496 : Nat) : Int) := by have := HFR.out; rw [show (4503599627370496 : Int) = ((4503599627370496 : Nat) : Int) from rfl, u64_or_nat _ _ (by omega) (by decide), Nat.or_comm, nat_join 52 _ _ (by decide) HFR.out, Nat.add_comm]
        have HR := Lib.hid h0; clear h0
        go_wp2_with fail
        refine (BsetUint64 g (fr + 4503599627370496) (by have := HFR.out; omega) wc hT.out).mono ?_; rintro e2 w2 ⟨rfl, hI2, hG2⟩
        have hcl := grown_cells hG2; have hfz := grown_frozens hG2; have hsz := hG2.size
        have r0 := (hcl _ 0 hl1 q5).trans r0; have r1 := (hcl _ 1 hl1 q5).trans r1; have r2 := (hcl _ 2 hl1 q5).trans r2; have r3 := (hcl _ 3 hl1 q5).trans r3
        have tn2 := tn.grown hG2 q7; have tr2 := tr.grown hG2 q5
        have hl2 : n < w2.heap.size := by omega
        have HW2 : Hid (Within w w2) := Lib.hid (Within.grown HWW.out hG2 (by omega))
        go_wp2
        have hI : IntB w2 g ((fr : Int) + 4503599627370496) := by have := hI2; simpa using this
        have hWW := HW2.out
        refine bodyPost_ret (v := .agg #[.int .i64 0, .bool true, .pointer (some ⟨g, 0, none⟩), .int .i64 ((fd : Int) - 1 + (-1022) - 53 + 1)]) (by simp [results, Tryd.results58, go_sem, r0, r1, r2, r3, q1, q2, hl1]) rfl ?_
        refine ⟨g, ?_, ?_, ?_, ?_⟩
        · simp [HF2.out, HR.out]; omega
        · simp [HF2.out, HR.out]; exact (by repeat (first | with_reducible assumption | with_reducible exact ib_new _ _ (by simp; done) | with_reducible refine IntB.setNum ?_ (by first | assumption | (simp; omega)) (by repeat (first | with_reducible assumption | with_reducible refine NumTy.set ?_ _ _ | with_reducible refine NumTy.alloc ?_ _)) _ | with_reducible refine IntB.alloc ?_ _))
        · omega
        · exact (by repeat (first | with_reducible exact Within.refl _ | with_reducible assumption | with_reducible refine Within.alloc ?_ _ | with_reducible refine Within.drew ?_ | with_reducible refine Within.drewN ?_ _ | with_reducible refine Within.setCell ?_ (by first | (simp; done) | (simp; omega)) _ | with_reducible refine Within.trans ?_ (by assumption)))

set_option maxRecDepth 100000 in
set_option maxHeartbeats 600000 in
theorem takeS_0 (b fr fd : Nat) (hfr : fr < 8388608) (hfd : fd < 256) (e1 : bits .and .u64 (b : Int) 8388607 = (fr : Int)) (e2 : bits .and .u64 ((b : Int) / 8388608) 255 = (fd : Int)) (e3 : bits .and .u64 ((b : Int) / 2147483648) 1 = 0) (w : World) : Calls Tryd.prog 58 #[fmS, .int .u64 (b : Int)] w (TakeI w 255 false fr fd 8388608 (-149)) := by
  have HF := Lib.hid (show fr < 18446744073709551616 by omega); have HFR := Lib.hid hfr; clear hfr
  have k0 : IntKind.i64.wrap 23 = 23 := by decide
  have k1 : IntKind.i64.wrap 31 = 31 := by decide
  have k2 : IntKind.u64.wrap 31 = 31 := by decide
  have k3 : IntKind.i64.wrap (-150) = -150 := by decide
  have k4 : IntKind.i64.wrap (-149) = -149 := by decide
  have k9 : (2 : Int) ^ min (Int.toNat 31) 64 = 2147483648 := by decide
  go_enter Tryd.func58, Tryd.ntmps58
  go_upto_region 3 with fail
  go_cut [7] (fun s7 wx => NumCut ((w.alloc (.cells #[.int .i64 24, .int .i64 (-126), .int .i64 127, .int .i64 8] 84)).alloc (.cells #[.int .i64 0, .bool false, .pointer none, .int .i64 0] 26)) fr false (-149) s7 wx)
  case first =>
    refine wp_region_schG (fun W => W.cell? ⟨w.heap.size, 0, none⟩ = some (.int .i64 (24)) ∧ W.cell? ⟨w.heap.size, 1, none⟩ = some (.int .i64 (-126)) ∧ W.cell? ⟨w.heap.size, 3, none⟩ = some (.int .i64 (8)) ∧ Within ((w.alloc (.cells #[.int .i64 24, .int .i64 (-126), .int .i64 127, .int .i64 8] 84)).alloc (.cells #[.int .i64 0, .bool false, .pointer none, .int .i64 0] 26)) W) 22 (.firm 0 (.firm 1 (.firm 2 (.firm 3 (.firm 4 (.firm 5 (.firm 6 (.firm 7 (.firm 8 (.firm 9 (.firm 10 (.firm 12 (.firm 14 (.firm 15 (.firm 16 (.firm 17 (.firm 18 (.firm 19 (.two 11 (.two 13 (.firm 20 (.one 21 (.one 22 .nil))) 21 (.one 13 (.firm 20 (.one 22 .nil)))) 21 (.one 11 (.one 13 (.firm 20 (.one 22 .nil))))))))))))))))))))))) (by kernel_rfl) (by kernel_rfl) ⟨by go_simp, by go_simp, by go_simp, Within.refl _⟩ ?_
    rintro w0 ⟨c0, c1, c3, hw0⟩
    try simp only [Act.put, List.setIfInBounds_toArray, List.set_cons_zero, List.set_cons_succ]
    have hs0 : w.heap.size < w0.heap.size := by have := hw0.sizes; simp at this; omega
    repeat
      apply sch_firm rfl rfl (by repeat (first | with_reducible exact Within.refl _ | with_reducible assumption | with_reducible refine Within.alloc ?_ _ | with_reducible refine Within.drew ?_ | with_reducible refine Within.drewN ?_ _ | with_reducible refine Within.setCell ?_ (by first | (simp; done) | (simp; omega)) _ | with_reducible refine Within.trans ?_ (by assumption)))
      · intro wq hq
        have hcq := hq.cells
        clear hq
        go_simp
        first | rfl | (trace_state; fail)
      try simp only [Act.put, List.setIfInBounds_toArray, List.set_cons_zero, List.set_cons_succ]
    refine sch_two rfl rfl rfl rfl (fun K hK => ?_) (fun K hK => ?_)
    · go_simp
      refine hK _ _ (by repeat (first | with_reducible exact Within.refl _ | with_reducible assumption | with_reducible refine Within.alloc ?_ _ | with_reducible refine Within.drew ?_ | with_reducible refine Within.drewN ?_ _ | with_reducible refine Within.setCell ?_ (by first | (simp; done) | (simp; omega)) _ | with_reducible refine Within.trans ?_ (by assumption))) ?_
      clear hK K
      try simp only [Act.put, List.setIfInBounds_toArray, List.set_cons_zero, List.set_cons_succ]
      refine sch_two rfl rfl rfl rfl (fun K hK => ?_) (fun K hK => ?_)
      · go_simp
        refine (BsetUint64 _ fr HF.out _ (by repeat (first | exact ty_new _ _ _ _ (by simp; done) | refine ty_drew ?_ | refine ty_alloc ?_ _))).mono ?_; rintro e1 w1 ⟨rfl, hI, hG⟩
        have hb1 : Within w0 w1 := Within.grown (by repeat (first | with_reducible exact Within.refl _ | with_reducible assumption | with_reducible refine Within.alloc ?_ _ | with_reducible refine Within.drew ?_ | with_reducible refine Within.drewN ?_ _ | with_reducible refine Within.setCell ?_ (by first | (simp; done) | (simp; omega)) _ | with_reducible refine Within.trans ?_ (by assumption))) hG (by simp)
        have hcl := grown_cells hG; have hfz := grown_frozens hG
        refine hK _ _ (by repeat (first | with_reducible exact Within.refl _ | with_reducible assumption | with_reducible refine Within.alloc ?_ _ | with_reducible refine Within.drew ?_ | with_reducible refine Within.drewN ?_ _ | with_reducible refine Within.setCell ?_ (by first | (simp; done) | (simp; omega)) _ | with_reducible refine Within.trans ?_ (by assumption))) ?_
        clear hK K
        try simp only [Act.put, List.setIfInBounds_toArray, List.set_cons_zero, List.set_cons_succ]
        repeat
          apply sch_firm rfl rfl (by repeat (first | with_reducible exact Within.refl _ | with_reducible assumption | with_reducible refine Within.alloc ?_ _ | with_reducible refine Within.drew ?_ | with_reducible refine Within.drewN ?_ _ | with_reducible refine Within.setCell ?_ (by first | (simp; done) | (simp; omega)) _ | with_reducible refine Within.trans ?_ (by assumption)))
          · intro wq hq
            have hcq := hq.cells
            clear hq
            go_simp
            first | rfl | (trace_state; fail)
          try simp only [Act.put, List.setIfInBounds_toArray, List.set_cons_zero, List.set_cons_succ]
        refine sch_one rfl rfl (fun K hK => ?_)
        go_simp
        refine hK _ _ (fun _ => (by repeat (first | with_reducible exact Within.refl _ | with_reducible assumption | with_reducible refine Within.alloc ?_ _ | with_reducible refine Within.drew ?_ | with_reducible refine Within.drewN ?_ _ | with_reducible refine Within.setCell ?_ (by first | (simp; done) | (simp; omega)) _ | with_reducible refine Within.trans ?_ (by assumption)))) ?_
        clear hK K
        try simp only [Act.put, List.setIfInBounds_toArray, List.set_cons_zero, List.set_cons_succ]
        refine sch_one rfl rfl (fun K hK => ?_)
        go_simp
        refine hK _ _ (fun h => absurd h (by decide)) ?_
        clear hK K
        try simp only [Act.put, List.setIfInBounds_toArray, List.set_cons_zero, List.set_cons_succ]
        refine sch_nil ?_
        go_wp2_with fail
        go_meet
        exact numCut_new hI (hw0.trans hb1) (Nat.le_trans hw0.sizes (by simp))
      · go_simp
        refine hK _ _ (by repeat (first | with_reducible exact Within.refl _ | with_reducible assumption | with_reducible refine Within.alloc ?_ _ | with_reducible refine Within.drew ?_ | with_reducible refine Within.drewN ?_ _ | with_reducible refine Within.setCell ?_ (by first | (simp; done) | (simp; omega)) _ | with_reducible refine Within.trans ?_ (by assumption))) ?_
        clear hK K
        try simp only [Act.put, List.setIfInBounds_toArray, List.set_cons_zero, List.set_cons_succ]
        refine sch_one rfl rfl (fun K hK => ?_)
        go_simp
        refine (BsetUint64 _ fr HF.out _ (by repeat (first | exact ty_new _ _ _ _ (by simp; done) | refine ty_drew ?_ | refine ty_alloc ?_ _))).mono ?_; rintro e1 w1 ⟨rfl, hI, hG⟩
        have hb1 : Within w0 w1 := Within.grown (by repeat (first | with_reducible exact Within.refl _ | with_reducible assumption | with_reducible refine Within.alloc ?_ _ | with_reducible refine Within.drew ?_ | with_reducible refine Within.drewN ?_ _ | with_reducible refine Within.setCell ?_ (by first | (simp; done) | (simp; omega)) _ | with_reducible refine Within.trans ?_ (by assumption))) hG (by simp)
        have hcl := grown_cells hG; have hfz := grown_frozens hG
        refine hK _ _ (fun _ => (by repeat (first | with_reducible exact Within.refl _ | with_reducible assumption | with_reducible refine Within.alloc ?_ _ | with_reducible refine Within.drew ?_ | with_reducible refine Within.drewN ?_ _ | with_reducible refine Within.setCell ?_ (by first | (simp; done) | (simp; omega)) _ | with_reducible refine Within.trans ?_ (by assumption)))) ?_
        clear hK K
        try simp only [Act.put, List.setIfInBounds_toArray, List.set_cons_zero, List.set_cons_succ]
        repeat
          apply sch_firm rfl rfl (by repeat (first | with_reducible exact Within.refl _ | with_reducible assumption | with_reducible refine Within.alloc ?_ _ | with_reducible refine Within.drew ?_ | with_reducible refine Within.drewN ?_ _ | with_reducible refine Within.setCell ?_ (by first | (simp; done) | (simp; omega)) _ | with_reducible refine Within.trans ?_ (by assumption)))
          · intro wq hq
            have hcq := hq.cells
            clear hq
            go_simp
            first | rfl | (trace_state; fail)
          try simp only [Act.put, List.setIfInBounds_toArray, List.set_cons_zero, List.set_cons_succ]
        refine sch_one rfl rfl (fun K hK => ?_)
        go_simp
        refine hK _ _ (fun h => absurd h (by decide)) ?_
        clear hK K
        try simp only [Act.put, List.setIfInBounds_toArray, List.set_cons_zero, List.set_cons_succ]
        refine sch_nil ?_
        go_wp2_with fail
        go_meet
        exact numCut_set hI (hp_grown hG (by simp) (by repeat (first | exact hp_new _ _ _ (by simp; done) | refine hp_drew ?_ | refine hp_alloc ?_ _))) (hw0.trans hb1) (Nat.le_trans hw0.sizes (by simp)) (Nat.le_trans hw0.sizes (by simp)) (by simp)
    · go_simp
      refine hK _ _ (by repeat (first | with_reducible exact Within.refl _ | with_reducible assumption | with_reducible refine Within.alloc ?_ _ | with_reducible refine Within.drew ?_ | with_reducible refine Within.drewN ?_ _ | with_reducible refine Within.setCell ?_ (by first | (simp; done) | (simp; omega)) _ | with_reducible refine Within.trans ?_ (by assumption))) ?_
      clear hK K
      try simp only [Act.put, List.setIfInBounds_toArray, List.set_cons_zero, List.set_cons_succ]
      refine sch_one rfl rfl (fun K hK => ?_)
      go_simp
      refine hK _ _ (fun _ => (by repeat (first | with_reducible exact Within.refl _ | with_reducible assumption | with_reducible refine Within.alloc ?_ _ | with_reducible refine Within.drew ?_ | with_reducible refine Within.drewN ?_ _ | with_reducible refine Within.setCell ?_ (by first | (simp; done) | (simp; omega)) _ | with_reducible refine Within.trans ?_ (by assumption)))) ?_
      clear hK K
      try simp only [Act.put, List.setIfInBounds_toArray, List.set_cons_zero, List.set_cons_succ]
      refine sch_one rfl rfl (fun K hK => ?_)
      go_simp
      refine (BsetUint64 _ fr HF.out _ (by repeat (first | exact ty_new _ _ _ _ (by simp; done) | refine ty_drew ?_ | refine ty_alloc ?_ _))).mono ?_; rintro e1 w1 ⟨rfl, hI, hG⟩
      have hb1 : Within w0 w1 := Within.grown (by repeat (first | with_reducible exact Within.refl _ | with_reducible assumption | with_reducible refine Within.alloc ?_ _ | with_reducible refine Within.drew ?_ | with_reducible refine Within.drewN ?_ _ | with_reducible refine Within.setCell ?_ (by first | (simp; done) | (simp; omega)) _ | with_reducible refine Within.trans ?_ (by assumption))) hG (by simp)
      have hcl := grown_cells hG; have hfz := grown_frozens hG
      refine hK _ _ (fun _ => (by repeat (first | with_reducible exact Within.refl _ | with_reducible assumption | with_reducible refine Within.alloc ?_ _ | with_reducible refine Within.drew ?_ | with_reducible refine Within.drewN ?_ _ | with_reducible refine Within.setCell ?_ (by first | (simp; done) | (simp; omega)) _ | with_reducible refine Within.trans ?_ (by assumption)))) ?_
      clear hK K
      try simp only [Act.put, List.setIfInBounds_toArray, List.set_cons_zero, List.set_cons_succ]
      repeat
        apply sch_firm rfl rfl (by repeat (first | with_reducible exact Within.refl _ | with_reducible assumption | with_reducible refine Within.alloc ?_ _ | with_reducible refine Within.drew ?_ | with_reducible refine Within.drewN ?_ _ | with_reducible refine Within.setCell ?_ (by first | (simp; done) | (simp; omega)) _ | with_reducible refine Within.trans ?_ (by assumption)))
        · intro wq hq
          have hcq := hq.cells
          clear hq
          go_simp
          first | rfl | (trace_state; fail)
        try simp only [Act.put, List.setIfInBounds_toArray, List.set_cons_zero, List.set_cons_succ]
      refine sch_one rfl rfl (fun K hK => ?_)
      go_simp
      refine hK _ _ (fun h => absurd h (by decide)) ?_
      clear hK K
      try simp only [Act.put, List.setIfInBounds_toArray, List.set_cons_zero, List.set_cons_succ]
      refine sch_nil ?_
      go_wp2_with fail
      go_meet
      exact numCut_set hI (hp_grown hG (by simp) (by repeat (first | exact hp_new _ _ _ (by simp; done) | refine hp_drew ?_ | refine hp_alloc ?_ _))) (hw0.trans hb1) (Nat.le_trans hw0.sizes (by simp)) (Nat.le_trans hw0.sizes (by simp)) (by simp)
  case rest =>
    obtain ⟨g, n, rfl, hn, hI, hg, hn2, hne, hw⟩ := hcut
    have m0 : wc.cell? ⟨n, 0, none⟩ = some (.int .i64 0) := by simp [World.cell?, hn]
    have m1 : wc.cell? ⟨n, 1, none⟩ = some (.bool false) := by simp [World.cell?, hn]
    have m2 : wc.cell? ⟨n, 2, none⟩ = some (.pointer (some ⟨g, 0, none⟩)) := by simp [World.cell?, hn]
    have m3 : wc.cell? ⟨n, 3, none⟩ = some (.int .i64 (-149)) := by simp [World.cell?, hn]
    have mf : ∀ o, wc.frozen? ⟨n, o, none⟩ = false := fun o => by simp [World.frozen?, hn]
    have x0 : wc.cell? ⟨w.heap.size, 0, none⟩ = some (.int .i64 (24)) := (hw.cells _ _ (by simp; omega)).trans (by go_simp)
    have x1 : wc.cell? ⟨w.heap.size, 1, none⟩ = some (.int .i64 (-126)) := (hw.cells _ _ (by simp; omega)).trans (by go_simp)
    have x3 : wc.cell? ⟨w.heap.size, 3, none⟩ = some (.int .i64 (8)) := (hw.cells _ _ (by simp; omega)).trans (by go_simp)
    have r0 : wc.cell? ⟨w.heap.size + 1, 0, none⟩ = some (.int .i64 0) := (hw.cells _ _ (by simp)).trans (by go_simp)
    have r1 : wc.cell? ⟨w.heap.size + 1, 1, none⟩ = some (.bool false) := (hw.cells _ _ (by simp)).trans (by go_simp)
    have r2 : wc.cell? ⟨w.heap.size + 1, 2, none⟩ = some (.pointer none) := (hw.cells _ _ (by simp)).trans (by go_simp)
    have r3 : wc.cell? ⟨w.heap.size + 1, 3, none⟩ = some (.int .i64 0) := (hw.cells _ _ (by simp)).trans (by go_simp)
    have rf : ∀ o, wc.frozen? ⟨w.heap.size + 1, o, none⟩ = false := fun o => (hw.frozens _ _ (by simp)).trans (by go_simp)
    have hT := Lib.hid hI.ty; have hlg := hI.lt
    have hln : n < wc.heap.size := World.block_lt_of_cell? wc _ m0; have hl1 : w.heap.size + 1 < wc.heap.size := World.block_lt_of_cell? wc _ r0; have hl0 : w.heap.size < wc.heap.size := by omega
    have hn3 : w.heap.size + 2 ≤ n := by simp at hn2; omega
    have hg3 : w.heap.size + 2 ≤ g := by simp at hg; omega
    have q1 : ¬ (w.heap.size + 1 = n) := by omega
    have q2 : ¬ (n = w.heap.size + 1) := by omega
    have q3 : ¬ (w.heap.size = n) := by omega
    have q4 : ¬ (n = w.heap.size) := by omega
    have q5 : ¬ (w.heap.size + 1 = g) := by omega
    have q6 : ¬ (w.heap.size = g) := by omega
    have q7 : ¬ (n = g) := fun h => hne h.symm
    have q8 : ¬ (g = n) := hne
    have tn : NumTy wc n := ⟨_, hn⟩
    have tr : NumTy wc (w.heap.size + 1) := ⟨_, (hw.block _ (by simp)).trans (hp_new _ _ _ (by simp))⟩
    have HI := Lib.hid hI; have HW := Lib.hid hw; have HG := Lib.hid hg3; have HN := Lib.hid hn
    have hww := (Within.refl w).alloc (.cells #[.int .i64 24, .int .i64 (-126), .int .i64 127, .int .i64 8] 84)
    have HWW : Hid (Within w wc) := Lib.hid (((Within.refl w).alloc _ |>.alloc _).trans hw)
    clear hn hn2 hg hI hw hww
    by_cases hF : fd = 255
    · subst hF
      by_cases hr : fr = 0
      · subst hr
        go_wp2
        have hI : IntB wc g 0 := HI.out
        have hWW := HWW.out
        refine bodyPost_ret (v := .agg #[.int .i64 1, .bool false, .pointer (some ⟨g, 0, none⟩), .int .i64 (-149)]) (by simp [results, Tryd.results58, go_sem, r0, r1, r2, r3, q1, q2, hl1]) rfl ?_
        refine ⟨g, ?_, ?_, ?_, ?_⟩
        · simp
        · simp; exact (by repeat (first | with_reducible assumption | with_reducible exact ib_new _ _ (by simp; done) | with_reducible refine IntB.setNum ?_ (by first | assumption | (simp; omega)) (by repeat (first | with_reducible assumption | with_reducible refine NumTy.set ?_ _ _ | with_reducible refine NumTy.alloc ?_ _)) _ | with_reducible refine IntB.alloc ?_ _))
        · omega
        · exact (by repeat (first | with_reducible exact Within.refl _ | with_reducible assumption | with_reducible refine Within.alloc ?_ _ | with_reducible refine Within.drew ?_ | with_reducible refine Within.drewN ?_ _ | with_reducible refine Within.setCell ?_ (by first | (simp; done) | (simp; omega)) _ | with_reducible refine Within.trans ?_ (by assumption)))
      · have d1 : ((fr : Int) != 0) = true := bne_iff_ne.2 (by omega)
        have HR := Lib.hid hr; clear hr
        go_wp2
        have hWW := HWW.out
        refine bodyPost_ret (v := .agg #[.int .i64 2, .bool false, .pointer (some ⟨wc.heap.size, 0, none⟩), .int .i64 (0)]) (by simp [results, Tryd.results58, go_sem, r0, r1, r2, r3, q1, q2, hl1]) rfl ?_
        refine ⟨wc.heap.size, ?_, ?_, ?_, ?_⟩
        · simp [HR.out]
        · simp [HR.out]; exact (by repeat (first | with_reducible assumption | with_reducible exact ib_new _ _ (by simp; done) | with_reducible refine IntB.setNum ?_ (by first | assumption | (simp; omega)) (by repeat (first | with_reducible assumption | with_reducible refine NumTy.set ?_ _ _ | with_reducible refine NumTy.alloc ?_ _)) _ | with_reducible refine IntB.alloc ?_ _))
        · omega
        · exact (by repeat (first | with_reducible exact Within.refl _ | with_reducible assumption | with_reducible refine Within.alloc ?_ _ | with_reducible refine Within.drew ?_ | with_reducible refine Within.drewN ?_ _ | with_reducible refine Within.setCell ?_ (by first | (simp; done) | (simp; omega)) _ | with_reducible refine Within.trans ?_ (by assumption)))
    · have d1 : True → ((fd : Int) == 255) = false := fun _ => beq_eq_false_iff_ne.2 (by omega)
      have HF2 := Lib.hid hF; clear hF
      by_cases h0 : fd = 0
      · subst h0
        go_wp2
        have hI := HI.out; have hWW := HWW.out
        refine bodyPost_ret (v := .agg #[.int .i64 0, .bool false, .pointer (some ⟨g, 0, none⟩), .int .i64 (-149)]) (by simp [results, Tryd.results58, go_sem, r0, r1, r2, r3, q1, q2, hl1]) rfl ?_
        refine ⟨g, ?_, ?_, ?_, ?_⟩
        · simp
        · simp; exact (by repeat (first | with_reducible assumption | with_reducible exact ib_new _ _ (by simp; done) | with_reducible refine IntB.setNum ?_ (by first | assumption | (simp; omega)) (by repeat (first | with_reducible assumption | with_reducible refine NumTy.set ?_ _ _ | with_reducible refine NumTy.alloc ?_ _)) _ | with_reducible refine IntB.alloc ?_ _))
        · omega
        · exact (by repeat (first | with_reducible exact Within.refl _ | with_reducible assumption | with_reducible refine Within.alloc ?_ _ | with_reducible refine Within.drew ?_ | with_reducible refine Within.drewN ?_ _ | with_reducible refine Within.setCell ?_ (by first | (simp; done) | (simp; omega)) _ | with_reducible refine Within.trans ?_ (by assumption)))
      · have hp : 0 < fd := by omega
        have gor : bits .or .u64 (fr : Int) 8388608 = ((fr + 8388608 : Nat) : Int) := by have := HFR.out; rw [show (8388608 : Int) = ((8388608 : Nat) : Int) from rfl, u64_or_nat _ _ (by omega) (by decide), Nat.or_comm, nat_join 23 _ _ (by decide) HFR.out, Nat.add_comm]
        have HR := Lib.hid h0; clear h0
        go_wp2_with fail
        refine (BsetUint64 g (fr + 8388608) (by have := HFR.out; omega) wc hT.out).mono ?_; rintro e2 w2 ⟨rfl, hI2, hG2⟩
        have hcl := grown_cells hG2; have hfz := grown_frozens hG2; have hsz := hG2.size
        have r0 := (hcl _ 0 hl1 q5).trans r0; have r1 := (hcl _ 1 hl1 q5).trans r1; have r2 := (hcl _ 2 hl1 q5).trans r2; have r3 := (hcl _ 3 hl1 q5).trans r3
        have tn2 := tn.grown hG2 q7; have tr2 := tr.grown hG2 q5
        have hl2 : n < w2.heap.size := by omega
        have HW2 : Hid (Within w w2) := Lib.hid (Within.grown HWW.out hG2 (by omega))
        go_wp2
        have hI : IntB w2 g ((fr : Int) + 8388608) := by have := hI2; simpa using this
        have hWW := HW2.out
        refine bodyPost_ret (v := .agg #[.int .i64 0, .bool false, .pointer (some ⟨g, 0, none⟩), .int .i64 ((fd : Int) - 1 + (-126) - 24 + 1)]) (by simp [results, Tryd.results58, go_sem, r0, r1, r2, r3, q1, q2, hl1]) rfl ?_
        refine ⟨g, ?_, ?_, ?_, ?_⟩
        · simp [HF2.out, HR.out]; omega
        · simp [HF2.out, HR.out]; exact (by repeat (first | with_reducible assumption | with_reducible exact ib_new _ _ (by simp; done) | with_reducible refine IntB.setNum ?_ (by first | assumption | (simp; omega)) (by repeat (first | with_reducible assumption | with_reducible refine NumTy.set ?_ _ _ | with_reducible refine NumTy.alloc ?_ _)) _ | with_reducible refine IntB.alloc ?_ _))
        · omega
        · exact (by repeat (first | with_reducible exact Within.refl _ | with_reducible assumption | with_reducible refine Within.alloc ?_ _ | with_reducible refine Within.drew ?_ | with_reducible refine Within.drewN ?_ _ | with_reducible refine Within.setCell ?_ (by first | (simp; done) | (simp; omega)) _ | with_reducible refine Within.trans ?_ (by assumption)))

set_option maxRecDepth 100000 in
set_option maxHeartbeats 600000 in
theorem takeS_1 (b fr fd : Nat) (hfr : fr < 8388608) (hfd : fd < 256) (e1 : bits .and .u64 (b : Int) 8388607 = (fr : Int)) (e2 : bits .and .u64 ((b : Int) / 8388608) 255 = (fd : Int)) (e3 : bits .and .u64 ((b : Int) / 2147483648) 1 = 1) (w : World) : Calls Tryd.prog 58 #[fmS, .int .u64 (b : Int)] w (TakeI w 255 true fr fd 8388608 (-149)) := by
  have HF := Lib.hid (show fr < 18446744073709551616 by omega); have HFR := Lib.hid hfr; clear hfr
  have k0 : IntKind.i64.wrap 23 = 23 := by decide
  have k1 : IntKind.i64.wrap 31 = 31 := by decide
  have k2 : IntKind.u64.wrap 31 = 31 := by decide
  have k3 : IntKind.i64.wrap (-150) = -150 := by decide
  have k4 : IntKind.i64.wrap (-149) = -149 := by decide
  have k9 : (2 : Int) ^ min (Int.toNat 31) 64 = 2147483648 := by decide
  go_enter Tryd.func58, Tryd.ntmps58
  go_upto_region 3 with fail
  go_cut [7] (fun s7 wx => NumCut ((w.alloc (.cells #[.int .i64 24, .int .i64 (-126), .int .i64 127, .int .i64 8] 84)).alloc (.cells #[.int .i64 0, .bool false, .pointer none, .int .i64 0] 26)) fr true (-149) s7 wx)
  case first =>
    refine wp_region_schG (fun W => W.cell? ⟨w.heap.size, 0, none⟩ = some (.int .i64 (24)) ∧ W.cell? ⟨w.heap.size, 1, none⟩ = some (.int .i64 (-126)) ∧ W.cell? ⟨w.heap.size, 3, none⟩ = some (.int .i64 (8)) ∧ Within ((w.alloc (.cells #[.int .i64 24, .int .i64 (-126), .int .i64 127, .int .i64 8] 84)).alloc (.cells #[.int .i64 0, .bool false, .pointer none, .int .i64 0] 26)) W) 22 (.firm 0 (.firm 1 (.firm 2 (.firm 3 (.firm 4 (.firm 5 (.firm 6 (.firm 7 (.firm 8 (.firm 9 (.firm 10 (.firm 12 (.firm 14 (.firm 15 (.firm 16 (.firm 17 (.firm 18 (.firm 19 (.two 11 (.two 13 (.firm 20 (.one 21 (.one 22 .nil))) 21 (.one 13 (.firm 20 (.one 22 .nil)))) 21 (.one 11 (.one 13 (.firm 20 (.one 22 .nil))))))))))))))))))))))) (by kernel_rfl) (by kernel_rfl) ⟨by go_simp, by go_simp, by go_simp, Within.refl _⟩ ?_
    rintro w0 ⟨c0, c1, c3, hw0⟩
    try simp only [Act.put, List.setIfInBounds_toArray, List.set_cons_zero, List.set_cons_succ]
    have hs0 : w.heap.size < w0.heap.size := by have := hw0.sizes; simp at this; omega
    repeat
      apply sch_firm rfl rfl (by repeat (first | with_reducible exact Within.refl _ | with_reducible assumption | with_reducible refine Within.alloc ?_ _ | with_reducible refine Within.drew ?_ | with_reducible refine Within.drewN ?_ _ | with_reducible refine Within.setCell ?_ (by first | (simp; done) | (simp; omega)) _ | with_reducible refine Within.trans ?_ (by assumption)))
      · intro wq hq
        have hcq := hq.cells
        clear hq
        go_simp
        first | rfl | (trace_state; fail)
      try simp only [Act.put, List.setIfInBounds_toArray, List.set_cons_zero, List.set_cons_succ]
    refine sch_two rfl rfl rfl rfl (fun K hK => ?_) (fun K hK => ?_)
    · go_simp
      refine hK _ _ (by repeat (first | with_reducible exact Within.refl _ | with_reducible assumption | with_reducible refine Within.alloc ?_ _ | with_reducible refine Within.drew ?_ | with_reducible refine Within.drewN ?_ _ | with_reducible refine Within.setCell ?_ (by first | (simp; done) | (simp; omega)) _ | with_reducible refine Within.trans ?_ (by assumption))) ?_
      clear hK K
      try simp only [Act.put, List.setIfInBounds_toArray, List.set_cons_zero, List.set_cons_succ]
      refine sch_two rfl rfl rfl rfl (fun K hK => ?_) (fun K hK => ?_)
      · go_simp
        refine (BsetUint64 _ fr HF.out _ (by repeat (first | exact ty_new _ _ _ _ (by simp; done) | refine ty_drew ?_ | refine ty_alloc ?_ _))).mono ?_; rintro e1 w1 ⟨rfl, hI, hG⟩
        have hb1 : Within w0 w1 := Within.grown (by repeat (first | with_reducible exact Within.refl _ | with_reducible assumption | with_reducible refine Within.alloc ?_ _ | with_reducible refine Within.drew ?_ | with_reducible refine Within.drewN ?_ _ | with_reducible refine Within.setCell ?_ (by first | (simp; done) | (simp; omega)) _ | with_reducible refine Within.trans ?_ (by assumption))) hG (by simp)
        have hcl := grown_cells hG; have hfz := grown_frozens hG
        refine hK _ _ (by repeat (first | with_reducible exact Within.refl _ | with_reducible assumption | with_reducible refine Within.alloc ?_ _ | with_reducible refine Within.drew ?_ | with_reducible refine Within.drewN ?_ _ | with_reducible refine Within.setCell ?_ (by first | (simp; done) | (simp; omega)) _ | with_reducible refine Within.trans ?_ (by assumption))) ?_
        clear hK K
        try simp only [Act.put, List.setIfInBounds_toArray, List.set_cons_zero, List.set_cons_succ]
        repeat
          apply sch_firm rfl rfl (by repeat (first | with_reducible exact Within.refl _ | with_reducible assumption | with_reducible refine Within.alloc ?_ _ | with_reducible refine Within.drew ?_ | with_reducible refine Within.drewN ?_ _ | with_reducible refine Within.setCell ?_ (by first | (simp; done) | (simp; omega)) _ | with_reducible refine Within.trans ?_ (by assumption)))
          · intro wq hq
            have hcq := hq.cells
            clear hq
            go_simp
            first | rfl | (trace_state; fail)
          try simp only [Act.put, List.setIfInBounds_toArray, List.set_cons_zero, List.set_cons_succ]
        refine sch_one rfl rfl (fun K hK => ?_)
        go_simp
        refine hK _ _ (fun _ => (by repeat (first | with_reducible exact Within.refl _ | with_reducible assumption | with_reducible refine Within.alloc ?_ _ | with_reducible refine Within.drew ?_ | with_reducible refine Within.drewN ?_ _ | with_reducible refine Within.setCell ?_ (by first | (simp; done) | (simp; omega)) _ | with_reducible refine Within.trans ?_ (by assumption)))) ?_
        clear hK K
        try simp only [Act.put, List.setIfInBounds_toArray, List.set_cons_zero, List.set_cons_succ]
        refine sch_one rfl rfl (fun K hK => ?_)
        go_simp
        refine hK _ _ (fun h => absurd h (by decide)) ?_
        clear hK K
        try simp only [Act.put, List.setIfInBounds_toArray, List.set_cons_zero, List.set_cons_succ]
        refine sch_nil ?_
        go_wp2_with fail
        go_meet
        exact numCut_new hI (hw0.trans hb1) (Nat.le_trans hw0.sizes (by simp))
      · go_simp
        refine hK _ _ (by repeat (first | with_reducible exact Within.refl _ | with_reducible assumption | with_reducible refine Within.alloc ?_ _ | with_reducible refine Within.drew ?_ | with_reducible refine Within.drewN ?_ _ | with_reducible refine Within.setCell ?_ (by first | (simp; done) | (simp; omega)) _ | with_reducible refine Within.trans ?_ (by assumption))) ?_
        clear hK K
        try simp only [Act.put, List.setIfInBounds_toArray, List.set_cons_zero, List.set_cons_succ]
        refine sch_one rfl rfl (fun K hK => ?_)
        go_simp
        refine (BsetUint64 _ fr HF.out _ (by repeat (first | exact ty_new _ _ _ _ (by simp; done) | refine ty_drew ?_ | refine ty_alloc ?_ _))).mono ?_; rintro e1 w1 ⟨rfl, hI, hG⟩
        have hb1 : Within w0 w1 := Within.grown (by repeat (first | with_reducible exact Within.refl _ | with_reducible assumption | with_reducible refine Within.alloc ?_ _ | with_reducible refine Within.drew ?_ | with_reducible refine Within.drewN ?_ _ | with_reducible refine Within.setCell ?_ (by first | (simp; done) | (simp; omega)) _ | with_reducible refine Within.trans ?_ (by assumption))) hG (by simp)
        have hcl := grown_cells hG; have hfz := grown_frozens hG
        refine hK _ _ (fun _ => (by repeat (first | with_reducible exact Within.refl _ | with_reducible assumption | with_reducible refine Within.alloc ?_ _ | with_reducible refine Within.drew ?_ | with_reducible refine Within.drewN ?_ _ | with_reducible refine Within.setCell ?_ (by first | (simp; done) | (simp; omega)) _ | with_reducible refine Within.trans ?_ (by assumption)))) ?_
        clear hK K
        try simp only [Act.put, List.setIfInBounds_toArray, List.set_cons_zero, List.set_cons_succ]
        repeat
          apply sch_firm rfl rfl (by repeat (first | with_reducible exact Within.refl _ | with_reducible assumption | with_reducible refine Within.alloc ?_ _ | with_reducible refine Within.drew ?_ | with_reducible refine Within.drewN ?_ _ | with_reducible refine Within.setCell ?_ (by first | (simp; done) | (simp; omega)) _ | with_reducible refine Within.trans ?_ (by assumption)))
          · intro wq hq
            have hcq := hq.cells
            clear hq
            go_simp
            first | rfl | (trace_state; fail)
          try simp only [Act.put, List.setIfInBounds_toArray, List.set_cons_zero, List.set_cons_succ]
        refine sch_one rfl rfl (fun K hK => ?_)
        go_simp
        refine hK _ _ (fun h => absurd h (by decide)) ?_
        clear hK K
        try simp only [Act.put, List.setIfInBounds_toArray, List.set_cons_zero, List.set_cons_succ]
        refine sch_nil ?_
        go_wp2_with fail
        go_meet
        exact numCut_set hI (hp_grown hG (by simp) (by repeat (first | exact hp_new _ _ _ (by simp; done) | refine hp_drew ?_ | refine hp_alloc ?_ _))) (hw0.trans hb1) (Nat.le_trans hw0.sizes (by simp)) (Nat.le_trans hw0.sizes (by simp)) (by simp)
    · go_simp
      refine hK _ _ (by repeat (first | with_reducible exact Within.refl _ | with_reducible assumption | with_reducible refine Within.alloc ?_ _ | with_reducible refine Within.drew ?_ | with_reducible refine Within.drewN ?_ _ | with_reducible refine Within.setCell ?_ (by first | (simp; done) | (simp; omega)) _ | with_reducible refine Within.trans ?_ (by assumption))) ?_
      clear hK K
      try simp only [Act.put, List.setIfInBounds_toArray, List.set_cons_zero, List.set_cons_succ]
      refine sch_one rfl rfl (fun K hK => ?_)
      go_simp
      refine hK _ _ (fun _ => (by repeat (first | with_reducible exact Within.refl _ | with_reducible assumption | with_reducible refine Within.alloc ?_ _ | with_reducible refine Within.drew ?_ | with_reducible refine Within.drewN ?_ _ | with_reducible refine Within.setCell ?_ (by first | (simp; done) | (simp; omega)) _ | with_reducible refine Within.trans ?_ (by assumption)))) ?_
      clear hK K
      try simp only [Act.put, List.setIfInBounds_toArray, List.set_cons_zero, List.set_cons_succ]
      refine sch_one rfl rfl (fun K hK => ?_)
      go_simp
      refine (BsetUint64 _ fr HF.out _ (by repeat (first | exact ty_new _ _ _ _ (by simp; done) | refine ty_drew ?_ | refine ty_alloc ?_ _))).mono ?_; rintro e1 w1 ⟨rfl, hI, hG⟩
      have hb1 : Within w0 w1 := Within.grown (by repeat (first | with_reducible exact Within.refl _ | with_reducible assumption | with_reducible refine Within.alloc ?_ _ | with_reducible refine Within.drew ?_ | with_reducible refine Within.drewN ?_ _ | with_reducible refine Within.setCell ?_ (by first | (simp; done) | (simp; omega)) _ | with_reducible refine Within.trans ?_ (by assumption))) hG (by simp)
      have hcl := grown_cells hG; have hfz := grown_frozens hG
      refine hK _ _ (fun _ => (by repeat (first | with_reducible exact Within.refl _ | with_reducible assumption | with_reducible refine Within.alloc ?_ _ | with_reducible refine Within.drew ?_ | with_reducible refine Within.drewN ?_ _ | with_reducible refine Within.setCell ?_ (by first | (simp; done) | (simp; omega)) _ | with_reducible refine Within.trans ?_ (by assumption)))) ?_
      clear hK K
      try simp only [Act.put, List.setIfInBounds_toArray, List.set_cons_zero, List.set_cons_succ]
      repeat
        apply sch_firm rfl rfl (by repeat (first | with_reducible exact Within.refl _ | with_reducible assumption | with_reducible refine Within.alloc ?_ _ | with_reducible refine Within.drew ?_ | with_reducible refine Within.drewN ?_ _ | with_reducible refine Within.setCell ?_ (by first | (simp; done) | (simp; omega)) _ | with_reducible refine Within.trans ?_ (by assumption)))
        · intro wq hq
          have hcq := hq.cells
          clear hq
          go_simp
          first | rfl | (trace_state; fail)
        try simp only [Act.put, List.setIfInBounds_toArray, List.set_cons_zero, List.set_cons_succ]
      refine sch_one rfl rfl (fun K hK => ?_)
      go_simp
      refine hK _ _ (fun h => absurd h (by decide)) ?_
      clear hK K
      try simp only [Act.put, List.setIfInBounds_toArray, List.set_cons_zero, List.set_cons_succ]
      refine sch_nil ?_
      go_wp2_with fail
      go_meet
      exact numCut_set hI (hp_grown hG (by simp) (by repeat (first | exact hp_new _ _ _ (by simp; done) | refine hp_drew ?_ | refine hp_alloc ?_ _))) (hw0.trans hb1) (Nat.le_trans hw0.sizes (by simp)) (Nat.le_trans hw0.sizes (by simp)) (by simp)
  case rest =>
    obtain ⟨g, n, rfl, hn, hI, hg, hn2, hne, hw⟩ := hcut
    have m0 : wc.cell? ⟨n, 0, none⟩ = some (.int .i64 0) := by simp [World.cell?, hn]
    have m1 : wc.cell? ⟨n, 1, none⟩ = some (.bool true) := by simp [World.cell?, hn]
    have m2 : wc.cell? ⟨n, 2, none⟩ = some (.pointer (some ⟨g, 0, none⟩)) := by simp [World.cell?, hn]
    have m3 : wc.cell? ⟨n, 3, none⟩ = some (.int .i64 (-149)) := by simp [World.cell?, hn]
    have mf : ∀ o, wc.frozen? ⟨n, o, none⟩ = false := fun o => by simp [World.frozen?, hn]
    have x0 : wc.cell? ⟨w.heap.size, 0, none⟩ = some (.int .i64 (24)) := (hw.cells _ _ (by simp; omega)).trans (by go_simp)
    have x1 : wc.cell? ⟨w.heap.size, 1, none⟩ = some (.int .i64 (-126)) := (hw.cells _ _ (by simp; omega)).trans (by go_simp)
    have x3 : wc.cell? ⟨w.heap.size, 3, none⟩ = some (.int .i64 (8)) := (hw.cells _ _ (by simp; omega)).trans (by go_simp)
    have r0 : wc.cell? ⟨w.heap.size + 1, 0, none⟩ = some (.int .i64 0) := (hw.cells _ _ (by simp)).trans (by go_simp)
    have r1 : wc.cell? ⟨w.heap.size + 1, 1, none⟩ = some (.bool false) := (hw.cells _ _ (by simp)).trans (by go_simp)
    have r2 : wc.cell? ⟨w.heap.size + 1, 2, none⟩ = some (.pointer none) := (hw.cells _ _ (by simp)).trans (by go_simp)
    have r3 : wc.cell? ⟨w.heap.size + 1, 3, none⟩ = some (.int .i64 0) := (hw.cells _ _ (by simp)).trans (by go_simp)
    have rf : ∀ o, wc.frozen? ⟨w.heap.size + 1, o, none⟩ = false := fun o => (hw.frozens _ _ (by simp)).trans (by go_simp)
    have hT := Lib.hid hI.ty; have hlg := hI.lt
    have hln : n < wc.heap.size := World.block_lt_of_cell? wc _ m0; have hl1 : w.heap.size + 1 < wc.heap.size := World.block_lt_of_cell? wc _ r0; have hl0 : w.heap.size < wc.heap.size := by omega
    have hn3 : w.heap.size + 2 ≤ n := by simp at hn2; omega
    have hg3 : w.heap.size + 2 ≤ g := by simp at hg; omega
    have q1 : ¬ (w.heap.size + 1 = n) := by omega
    have q2 : ¬ (n = w.heap.size + 1) := by omega
    have q3 : ¬ (w.heap.size = n) := by omega
    have q4 : ¬ (n = w.heap.size) := by omega
    have q5 : ¬ (w.heap.size + 1 = g) := by omega
    have q6 : ¬ (w.heap.size = g) := by omega
    have q7 : ¬ (n = g) := fun h => hne h.symm
    have q8 : ¬ (g = n) := hne
    have tn : NumTy wc n := ⟨_, hn⟩
    have tr : NumTy wc (w.heap.size + 1) := ⟨_, (hw.block _ (by simp)).trans (hp_new _ _ _ (by simp))⟩
    have HI := Lib.hid hI; have HW := Lib.hid hw; have HG := Lib.hid hg3; have HN := Lib.hid hn
    have hww := (Within.refl w).alloc (.cells #[.int .i64 24, .int .i64 (-126), .int .i64 127, .int .i64 8] 84)
    have HWW : Hid (Within w wc) := Lib.hid (((Within.refl w).alloc _ |>.alloc _).trans hw)
    clear hn hn2 hg hI hw hww
    by_cases hF : fd = 255
    · subst hF
      by_cases hr : fr = 0
      · subst hr
        go_wp2
        have hI : IntB wc g 0 := HI.out
        have hWW := HWW.out
        refine bodyPost_ret (v := .agg #[.int .i64 1, .bool true, .pointer (some ⟨g, 0, none⟩), .int .i64 (-149)]) (by simp [results, Tryd.results58, go_sem, r0, r1, r2, r3, q1, q2, hl1]) rfl ?_
        refine ⟨g, ?_, ?_, ?_, ?_⟩
        · simp
        · simp; exact (by repeat (first | with_reducible assumption | with_reducible exact ib_new _ _ (by simp; done) | with_reducible refine IntB.setNum ?_ (by first | assumption | (simp; omega)) (by repeat (first | with_reducible assumption | with_reducible refine NumTy.set ?_ _ _ | with_reducible refine NumTy.alloc ?_ _)) _ | with_reducible refine IntB.alloc ?_ _))
        · omega
        · exact (by repeat (first | with_reducible exact Within.refl _ | with_reducible assumption | with_reducible refine Within.alloc ?_ _ | with_reducible refine Within.drew ?_ | with_reducible refine Within.drewN ?_ _ | with_reducible refine Within.setCell ?_ (by first | (simp; done) | (simp; omega)) _ | with_reducible refine Within.trans ?_ (by assumption)))
      · have d1 : ((fr : Int) != 0) = true := bne_iff_ne.2 (by omega)
        have HR := Lib.hid hr; clear hr
        go_wp2
        have hWW := HWW.out
        refine bodyPost_ret (v := .agg #[.int .i64 2, .bool false, .pointer (some ⟨wc.heap.size, 0, none⟩), .int .i64 (0)]) (by simp [results, Tryd.results58, go_sem, r0, r1, r2, r3, q1, q2, hl1]) rfl ?_
        refine ⟨wc.heap.size, ?_, ?_, ?_, ?_⟩
        · simp [HR.out]
        · simp [HR.out]; exact (by repeat (first | with_reducible assumption | with_reducible exact ib_new _ _ (by simp; done) | with_reducible refine IntB.setNum ?_ (by first | assumption | (simp; omega)) (by repeat (first | with_reducible assumption | with_reducible refine NumTy.set ?_ _ _ | with_reducible refine NumTy.alloc ?_ _)) _ | with_reducible refine IntB.alloc ?_ _))
        · omega
        · exact (by repeat (first | with_reducible exact Within.refl _ | with_reducible assumption | with_reducible refine Within.alloc ?_ _ | with_reducible refine Within.drew ?_ | with_reducible refine Within.drewN ?_ _ | with_reducible refine Within.setCell ?_ (by first | (simp; done) | (simp; omega)) _ | with_reducible refine Within.trans ?_ (by assumption)))
    · have d1 : True → ((fd : Int) == 255) = false := fun _ => beq_eq_false_iff_ne.2 (by omega)
      have HF2 := Lib.hid hF; clear hF
      by_cases h0 : fd = 0
      · subst h0
        go_wp2
        have hI := HI.out; have hWW := HWW.out
        refine bodyPost_ret (v := .agg #[.int .i64 0, .bool true, .pointer (some ⟨g, 0, none⟩), .int .i64 (-149)]) (by simp [results, Tryd.results58, go_sem, r0, r1, r2, r3, q1, q2, hl1]) rfl ?_
        refine ⟨g, ?_, ?_, ?_, ?_⟩
        · simp
        · simp; exact (by repeat (first | with_reducible assumption | with_reducible exact ib_new _ _ (by simp; done) | with_reducible refine IntB.setNum ?_ (by first | assumption | (simp; omega)) (by repeat (first | with_reducible assumption | with_reducible refine NumTy.set ?_ _ _ | with_reducible refine NumTy.alloc ?_ _)) _ | with_reducible refine IntB.alloc ?_ _))
        · omega
        · exact (by repeat (first | with_reducible exact Within.refl _ | with_reducible assumption | with_reducible refine Within.alloc ?_ _ | with_reducible refine Within.drew ?_ | with_reducible refine Within.drewN ?_ _ | with_reducible refine Within.setCell ?_ (by first | (simp; done) | (simp; omega)) _ | with_reducible refine Within.trans ?_ (by assumption)))
      · have hp : 0 < fd := by omega
        have gor : bits .or .u64 (fr : Int) 8388608 = ((fr + 8388608 : Nat) : Int) := by have := HFR.out; rw [show (8388608 : Int) = ((8388608 : Nat) : Int) from rfl, u64_or_nat _ _ (by omega) (by decide), Nat.or_comm, nat_join 23 _ _ (by decide) HFR.out, Nat.add_comm]
        have HR := Lib.hid h0; clear h0
        go_wp2_with fail
        refine (BsetUint64 g (fr + 8388608) (by have := HFR.out; omega) wc hT.out).mono ?_; rintro e2 w2 ⟨rfl, hI2, hG2⟩
        have hcl := grown_cells hG2; have hfz := grown_frozens hG2; have hsz := hG2.size
        have r0 := (hcl _ 0 hl1 q5).trans r0; have r1 := (hcl _ 1 hl1 q5).trans r1; have r2 := (hcl _ 2 hl1 q5).trans r2; have r3 := (hcl _ 3 hl1 q5).trans r3
        have tn2 := tn.grown hG2 q7; have tr2 := tr.grown hG2 q5
        have hl2 : n < w2.heap.size := by omega
        have HW2 : Hid (Within w w2) := Lib.hid (Within.grown HWW.out hG2 (by omega))
        go_wp2
        have hI : IntB w2 g ((fr : Int) + 8388608) := by have := hI2; simpa using this
        have hWW := HW2.out
        refine bodyPost_ret (v := .agg #[.int .i64 0, .bool true, .pointer (some ⟨g, 0, none⟩), .int .i64 ((fd : Int) - 1 + (-126) - 24 + 1)]) (by simp [results, Tryd.results58, go_sem, r0, r1, r2, r3, q1, q2, hl1]) rfl ?_
        refine ⟨g, ?_, ?_, ?_, ?_⟩
        · simp [HF2.out, HR.out]; omega
        · simp [HF2.out, HR.out]; exact (by repeat (first | with_reducible assumption | with_reducible exact ib_new _ _ (by simp; done) | with_reducible refine IntB.setNum ?_ (by first | assumption | (simp; omega)) (by repeat (first | with_reducible assumption | with_reducible refine NumTy.set ?_ _ _ | with_reducible refine NumTy.alloc ?_ _)) _ | with_reducible refine IntB.alloc ?_ _))
        · omega
        · exact (by repeat (first | with_reducible exact Within.refl _ | with_reducible assumption | with_reducible refine Within.alloc ?_ _ | with_reducible refine Within.drew ?_ | with_reducible refine Within.drewN ?_ _ | with_reducible refine Within.setCell ?_ (by first | (simp; done) | (simp; omega)) _ | with_reducible refine Within.trans ?_ (by assumption)))

theorem RtakeD (b : Nat) (hb : b < 18446744073709551616) (w : World) : Calls Tryd.prog 58 #[fmD, .int .u64 (b : Int)] w (TakeI w 2047 (decide (9223372036854775808 ≤ b)) (b % 4503599627370496) (b / 4503599627370496 % 2048) 4503599627370496 (-1074)) := by
  have e1 := u64_mask 52 (by decide) b (by omega)
  have e2 := u64_mask 11 (by decide) (b / 4503599627370496) (by omega)
  have e3 := u64_mask 1 (by decide) (b / 9223372036854775808) (by omega)
  rw [show (2 ^ 52 - 1 : Nat) = 4503599627370495 from rfl, show (2 ^ 52 : Nat) = 4503599627370496 from rfl] at e1
  rw [show (2 ^ 11 - 1 : Nat) = 2047 from rfl, show (2 ^ 11 : Nat) = 2048 from rfl, Int.natCast_ediv] at e2
  rw [show (2 ^ 1 - 1 : Nat) = 1 from rfl, show (2 ^ 1 : Nat) = 2 from rfl, Int.natCast_ediv] at e3
  by_cases h : 9223372036854775808 ≤ b
  · rw [decide_eq_true h]
    rw [show b / 9223372036854775808 % 2 = 1 by omega] at e3
    exact takeD_1 b (b % 4503599627370496) (b / 4503599627370496 % 2048) (Nat.mod_lt _ (by decide)) (Nat.mod_lt _ (by decide)) e1 e2 e3 w
  · rw [decide_eq_false h]
    rw [show b / 9223372036854775808 % 2 = 0 by omega] at e3
    exact takeD_0 b (b % 4503599627370496) (b / 4503599627370496 % 2048) (Nat.mod_lt _ (by decide)) (Nat.mod_lt _ (by decide)) e1 e2 e3 w
theorem RtakeS (b : Nat) (hb : b < 4294967296) (w : World) : Calls Tryd.prog 58 #[fmS, .int .u64 (b : Int)] w (TakeI w 255 (decide (2147483648 ≤ b)) (b % 8388608) (b / 8388608 % 256) 8388608 (-149)) := by
  have e1 := u64_mask 23 (by decide) b (by omega)
  have e2 := u64_mask 8 (by decide) (b / 8388608) (by omega)
  have e3 := u64_mask 1 (by decide) (b / 2147483648) (by omega)
  rw [show (2 ^ 23 - 1 : Nat) = 8388607 from rfl, show (2 ^ 23 : Nat) = 8388608 from rfl] at e1
  rw [show (2 ^ 8 - 1 : Nat) = 255 from rfl, show (2 ^ 8 : Nat) = 256 from rfl, Int.natCast_ediv] at e2
  rw [show (2 ^ 1 - 1 : Nat) = 1 from rfl, show (2 ^ 1 : Nat) = 2 from rfl, Int.natCast_ediv] at e3
  by_cases h : 2147483648 ≤ b
  · rw [decide_eq_true h]
    rw [show b / 2147483648 % 2 = 1 by omega] at e3
    exact takeS_1 b (b % 8388608) (b / 8388608 % 256) (Nat.mod_lt _ (by decide)) (Nat.mod_lt _ (by decide)) e1 e2 e3 w
  · rw [decide_eq_false h]
    rw [show b / 2147483648 % 2 = 0 by omega] at e3
    exact takeS_0 b (b % 8388608) (b / 8388608 % 256) (Nat.mod_lt _ (by decide)) (Nat.mod_lt _ (by decide)) e1 e2 e3 w
end Go.Proofs.YtifgngmebnjfkaaDoor
