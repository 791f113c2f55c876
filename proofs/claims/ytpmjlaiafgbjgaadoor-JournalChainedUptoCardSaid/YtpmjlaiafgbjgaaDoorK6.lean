/- What the laws' walks rest on, part 6: contracts of functions and plain facts (Jo5, Jo8, Jou2, Jo6, Jo7, Jo9, Log, Jo10). -/
import Derived.Test.YtpmjlaiafgbjgaaDoorK4
import Derived.Test.YtpmjlaiafgbjgaaDoorK5
set_option linter.unusedVariables false
set_option linter.unusedSimpArgs false
section
namespace Go.Proofs.YtpmjlaiafgbjgaaDoor
open Go.RowKit

/-- a reader of logs: its bytes, where it stands, its link, its records -/
def NxC (w : World) (rb : Nat) (bv : Value) (a k : Nat) (lv : Value) : Prop := w.cell? ⟨rb, 0, none⟩ = some bv ∧ w.cell? ⟨rb, 1, none⟩ = some (.int .i64 (a : Int)) ∧ w.cell? ⟨rb, 2, none⟩ = some (.int .u32 (k : Int)) ∧ w.cell? ⟨rb, 3, none⟩ = some lv ∧ ∀ o, w.frozen? ⟨rb, o, none⟩ = false
theorem NxC.lt {w : World} {rb : Nat} {bv : Value} {a k : Nat} {lv : Value} (h : NxC w rb bv a k lv) : rb < w.heap.size := World.block_lt_of_cell? _ _ h.1
theorem NxC.of {w w' : World} {rb : Nat} {bv : Value} {a k : Nat} {lv : Value} (h : NxC w rb bv a k lv) (i : Within w w') : NxC w' rb bv a k lv := by
  have hb := h.lt
  obtain ⟨h0, h1, h2, h3, h4⟩ := h
  exact ⟨(i.cells _ _ hb).trans h0, (i.cells _ _ hb).trans h1, (i.cells _ _ hb).trans h2, (i.cells _ _ hb).trans h3, fun o => (i.frozens _ _ hb).trans (h4 o)⟩
theorem NxC.grown {w w' : World} {row : Option Nat} {rb : Nat} {bv : Value} {a k : Nat} {lv : Value} (h : NxC w rb bv a k lv) (i : w.grownBy w' row) (hne : row ≠ some rb) : NxC w' rb bv a k lv := by
  have hb := h.lt
  obtain ⟨h0, h1, h2, h3, h4⟩ := h
  exact ⟨i.cell h0 (Ne.symm hne), i.cell h1 (Ne.symm hne), i.cell h2 (Ne.symm hne), i.cell h3 (Ne.symm hne), fun o => (World.frozen?_of_block (i.block rb hb (Ne.symm hne))).trans (h4 o)⟩
theorem NxC.list {w : World} {rb : Nat} {bv : Value} {a k : Nat} {lv : Value} (h : NxC w rb bv a k lv) (u : Value) : NxC (w.setCell ⟨rb, 3, none⟩ u) rb bv a k u := by
  obtain ⟨h0, h1, h2, h3, h4⟩ := h
  refine ⟨?_, ?_, ?_, World.cell?_setCell_same _ _ _ h3, fun o => by rw [World.frozen?_setCell]; exact h4 o⟩
  · rw [World.cell?_setCell_other _ _ _ _ (by simp)]; exact h0
  · rw [World.cell?_setCell_other _ _ _ _ (by simp)]; exact h1
  · rw [World.cell?_setCell_other _ _ _ _ (by simp)]; exact h2
theorem NxC.place {w : World} {rb : Nat} {bv : Value} {a k : Nat} {lv : Value} (h : NxC w rb bv a k lv) (x : Nat) : NxC (w.setCell ⟨rb, 1, none⟩ (.int .i64 (x : Int))) rb bv x k lv := by
  obtain ⟨h0, h1, h2, h3, h4⟩ := h
  refine ⟨?_, World.cell?_setCell_same _ _ _ h1, ?_, ?_, fun o => by rw [World.frozen?_setCell]; exact h4 o⟩
  · rw [World.cell?_setCell_other _ _ _ _ (by simp)]; exact h0
  · rw [World.cell?_setCell_other _ _ _ _ (by simp)]; exact h2
  · rw [World.cell?_setCell_other _ _ _ _ (by simp)]; exact h3
theorem NxC.link {w : World} {rb : Nat} {bv : Value} {a k : Nat} {lv : Value} (h : NxC w rb bv a k lv) (x : Nat) : NxC (w.setCell ⟨rb, 2, none⟩ (.int .u32 (x : Int))) rb bv a x lv := by
  obtain ⟨h0, h1, h2, h3, h4⟩ := h
  refine ⟨?_, ?_, World.cell?_setCell_same _ _ _ h2, ?_, fun o => by rw [World.frozen?_setCell]; exact h4 o⟩
  · rw [World.cell?_setCell_other _ _ _ _ (by simp)]; exact h0
  · rw [World.cell?_setCell_other _ _ _ _ (by simp)]; exact h1
  · rw [World.cell?_setCell_other _ _ _ _ (by simp)]; exact h3
def NextPost (w : World) (rb B : Nat) (bv : Value) (left : List Nat) (a k : Nat) (rs : List Rec) (e : Ending) (w' : World) : Prop :=
  (left = [] ∧ e = .returned (.tuple #[.int .i64 0, .bool false]) ∧ Within w w') ∨
  (left ≠ [] ∧ whyV pf left rs.length k ≠ 0 ∧ e = .returned (.tuple #[.int .i64 (whyV pf left rs.length k : Int), .bool false]) ∧ Within w w') ∨
  (whyV pf left rs.length k = 0 ∧ e = .returned (.tuple #[.int .i64 0, .bool true]) ∧ ∃ lv, NxC w' rb bv (a + (endV left + 4)) (linkV k (left.take (endV left))) lv ∧ RecsO w' B lv ((rs ++ [recV left]).map Rec.i) ∧ ButS (fun j => j = rb ∨ B ≤ j) w w')
theorem wp_region_schT {P : Program} {ops : Array Oper} {Q : Exit → Act → World → Prop} {id : Nat} {a : Act} {w : World} (T : Nat → Prop) (F : World → Prop) (p : Nat) (t : Sch) (hm : P.follows .mixedOrders = true) (hB : t.okAll ops p = true) (hF : F w)
    (h : ∀ w0, F w0 → wpSch P ops (OnlyN Q) (ButS T w0) p t a w0.drew) : (Code.region id ops true).wp P Q a w := wp_region_sch (ButS T w) p t hm hB ((ButS.refl T w).drew) fun _ => h w hF
theorem NextPost.rec_ {w w' : World} {rb B : Nat} {bv lv : Value} {left : List Nat} {a k : Nat} {rs : List Rec} (h : whyV pf left rs.length k = 0) (h1 : NxC w' rb bv (a + (endV left + 4)) (linkV k (left.take (endV left))) lv) (h2 : RecsO w' B lv ((rs ++ [recV left]).map Rec.i)) (h3 : ButS (fun j => j = rb ∨ B ≤ j) w w') : NextPost w rb B bv left a k rs (.returned (.tuple #[.int .i64 0, .bool true])) w' := .inr (.inr ⟨h, rfl, lv, h1, h2, h3⟩)
theorem why_few {b : List Nat} {n k : Nat} (h : b.length < 13) : whyV pf b n k = 2 := by unfold whyV; rw [if_pos h]
theorem why_sum {b : List Nat} {n k : Nat} (h : ¬ b.length < 13) (h2 : at4 b 9 ≠ linkV k (b.take 9)) : whyV pf b n k = 4 := by unfold whyV; rw [if_neg h, if_pos h2]
theorem why_form {b : List Nat} {n k : Nat} (h : ¬ b.length < 13) (h2 : ¬ at4 b 9 ≠ linkV k (b.take 9)) (h3 : b.getD 0 0 < 1 ∨ 3 < b.getD 0 0 ∨ at4 b 1 ≠ n ∨ 1048576 < at4 b 5 ∨ 1048576 ≤ n) : whyV pf b n k = 3 := by unfold whyV; rw [if_neg h, if_neg h2, if_pos h3]
theorem why_short {b : List Nat} {n k : Nat} (h : ¬ b.length < 13) (h2 : ¬ at4 b 9 ≠ linkV k (b.take 9)) (h3 : ¬ (b.getD 0 0 < 1 ∨ 3 < b.getD 0 0 ∨ at4 b 1 ≠ n ∨ 1048576 < at4 b 5 ∨ 1048576 ≤ n)) (h4 : b.length < endV b + 4) : whyV pf b n k = 2 := by unfold whyV; rw [if_neg h, if_neg h2, if_neg h3, if_pos h4]
theorem why_link {b : List Nat} {n k : Nat} (h : ¬ b.length < 13) (h2 : ¬ at4 b 9 ≠ linkV k (b.take 9)) (h3 : ¬ (b.getD 0 0 < 1 ∨ 3 < b.getD 0 0 ∨ at4 b 1 ≠ n ∨ 1048576 < at4 b 5 ∨ 1048576 ≤ n)) (h4 : ¬ b.length < endV b + 4) (h5 : at4 b (endV b) ≠ linkV k (b.take (endV b))) : whyV pf b n k = 4 := by unfold whyV; rw [if_neg h, if_neg h2, if_neg h3, if_neg h4, if_pos h5]
theorem why_rec {b : List Nat} {n k : Nat} (h : ¬ b.length < 13) (h2 : ¬ at4 b 9 ≠ linkV k (b.take 9)) (h3 : ¬ (b.getD 0 0 < 1 ∨ 3 < b.getD 0 0 ∨ at4 b 1 ≠ n ∨ 1048576 < at4 b 5 ∨ 1048576 ≤ n)) (h4 : ¬ b.length < endV b + 4) (h5 : ¬ at4 b (endV b) ≠ linkV k (b.take (endV b))) : whyV pf b n k = if checkR pf (b.getD 0 0) ((b.drop 13).take (at4 b 5)) ≠ 0 then 3 else 0 := by unfold whyV; rw [if_neg h, if_neg h2, if_neg h3, if_neg h4, if_neg h5]
theorem at4_lt {b : List Nat} (hb : Bytes b) (i : Nat) : at4 b i < 4294967296 := by
  have h := leVal_lt ((hb.drop i).take 4)
  have hl : ((b.drop i).take 4).length ≤ 4 := by rw [List.length_take]; exact Nat.min_le_left _ _
  exact Nat.lt_of_lt_of_le h (by rw [show (4294967296 : Nat) = 2 ^ 32 from rfl]; exact Nat.pow_le_pow_right (by decide) (by omega))
theorem NextPost.none_ {w w' : World} {rb B : Nat} {bv : Value} {left : List Nat} {a k : Nat} {rs : List Rec} (h : left = []) (hw : Within w w') : NextPost w rb B bv left a k rs (.returned (.tuple #[.int .i64 0, .bool false])) w' := .inl ⟨h, rfl, hw⟩
theorem NextPost.why {w w' : World} {rb B : Nat} {bv : Value} {left : List Nat} {a k y : Nat} {rs : List Rec} (h0 : left ≠ []) (h : whyV pf left rs.length k = y) (hy : y ≠ 0) (hw : Within w w') : NextPost w rb B bv left a k rs (.returned (.tuple #[.int .i64 (y : Int), .bool false])) w' := .inr (.inl ⟨h0, by rw [h]; exact hy, by rw [h], hw⟩)
/-- what is left of a log, as a slice -/
theorem left_at {w : World} {ad : Addr} {b : List Nat} (hr : SlAt w (some ad) (u8v b)) (a : Nat) : SlAt w (some (ad.add a)) (u8v (b.drop a)) := by have := hr.drop a; unfold u8v at this ⊢; rwa [← List.map_drop] at this

set_option maxRecDepth 100000 in
set_option maxHeartbeats 4000000 in
theorem next_any (rb B : Nat) (ad : Addr) (cb : Nat) (b : List Nat) (hb : Bytes b) (a k : Nat) (rs : List Rec) (hlen : b.length ≤ 140737488355328) (hcb : b.length ≤ cb) (ha : a ≤ b.length) (hk : k < 4294967296) (hrs : rs.length ≤ 1048576) (hrB : rb < B) (lv : Value) (w : World) (hB : B ≤ w.heap.size) (hT : FmS w) (hC : NxC w rb (.slice (some ad) b.length cb) a k lv) (hL : RecsO w B lv (rs.map Rec.i)) (hr : SlAt w (some ad) (u8v b)) : Calls Tryd.prog 62 #[.pointer (some ⟨rb, 0, none⟩)] w (NextPost w rb B (.slice (some ad) b.length cb) (b.drop a) a k rs) := by
  obtain ⟨Al, cl, rfl, hcl, _, _, _⟩ := hL.at
  rw [List.length_map] at hcl hC hL
  have hrb := hC.lt
  obtain ⟨p0, p1, p2, p3, pf0⟩ := hC
  obtain ⟨left, hleft⟩ : ∃ l, b.drop a = l := ⟨_, rfl⟩
  have hll : left.length = b.length - a := by rw [← hleft, List.length_drop]
  have hls := left_at hr a
  rw [hleft] at hls ⊢
  have hlb : Bytes left := by rw [← hleft]; exact hb.drop a
  obtain ⟨N, hN⟩ : ∃ N, b.length = N := ⟨_, rfl⟩
  rw [hN] at hlen hcb ha hll p0 ⊢
  clear hN
  obtain ⟨n, hn⟩ : ∃ n, rs.length = n := ⟨_, rfl⟩
  rw [hn] at hcl hrs p3 hL
  have a1 : (a : Int) ≤ (N : Int) := by omega
  have a2 : (a : Int) ≤ (cb : Int) := by omega
  have a0 : (0 : Int) ≤ (a : Int) := by omega
  have a3 : (N : Int) ≤ (cb : Int) := by omega
  have HRB := Lib.hid hrb; have HN := Lib.hid hn; have HT := Lib.hid hT; have HLB := Lib.hid hlb; have HLS := Lib.hid hls; have HLL := Lib.hid hll; have HRL := Lib.hid hL; have HPF := Lib.hid pf0; clear hn hT hlb hls hll hL hr hb hleft pf0
  rcases Nat.eq_zero_or_pos left.length with h0 | h0
  · have hnil : left = [] := List.eq_nil_of_length_eq_zero h0
    obtain rfl : N = a := by have := HLL.out; omega
    have HNIL := Lib.hid hnil; clear hnil h0
    rcases Decidable.em (cb = N) with hc | hc
    all_goals
      go_enter Tryd.func62, Tryd.ntmps62
      go_wp2_with fail
      refine wp_region_schG (fun W => W.cell? ⟨rb, 0, none⟩ = some (.slice (some ad) (N) (cb)) ∧ W.cell? ⟨rb, 1, none⟩ = some (.int .i64 (N : Int)) ∧ W.cell? ⟨rb, 2, none⟩ = some (.int .u32 (k : Int)) ∧ W.cell? ⟨rb, 3, none⟩ = some (.slice Al n cl) ∧ rb < W.heap.size ∧ Within w W) 9 (.firm 0 (.firm 1 (.firm 2 (.firm 3 (.firm 4 (.firm 5 (.firm 6 (.firm 7 (.firm 8 (.one 9 .nil)))))))))) (by kernel_rfl) (by kernel_rfl) ⟨p0, p1, p2, p3, hrb, Within.refl _⟩ ?_
      rintro w0 ⟨p0, p1, p2, p3, hrb, hw0⟩
      try simp only [Act.put, List.setIfInBounds_toArray, List.set_cons_zero, List.set_cons_succ]
      iterate 9
        apply sch_firm rfl rfl (by repeat (first | with_reducible exact Within.refl _ | with_reducible assumption | with_reducible refine Within.alloc ?_ _ | with_reducible refine Within.drew ?_ | with_reducible refine Within.drewN ?_ _ | with_reducible refine Within.setCell ?_ (by first | (simp; done) | (simp; omega)) _ | with_reducible refine Within.trans ?_ (by assumption)))
        · intro wq hq
          have hcq := hq.cells
          clear hq
          go_simp
          rfl
        try simp only [Act.put, List.setIfInBounds_toArray, List.set_cons_zero, List.set_cons_succ]
      refine sch_one rfl rfl (fun K hK => ?_)
      go_simp
      refine hK _ _ (fun h => absurd h (by decide)) ?_
      clear hK K
      try simp only [Act.put, List.setIfInBounds_toArray, List.set_cons_zero, List.set_cons_succ]
      refine sch_nil ?_
      go_wp2
      go_ret2
      exact NextPost.none_ HNIL.out (by repeat (first | with_reducible exact Within.refl _ | with_reducible assumption | with_reducible refine Within.alloc ?_ _ | with_reducible refine Within.drew ?_ | with_reducible refine Within.drewN ?_ _ | with_reducible refine Within.setCell ?_ (by first | (simp; done) | (simp; omega)) _ | with_reducible refine Within.trans ?_ (by assumption)))
  have hne : left ≠ [] := fun h => by rw [h] at h0; simp at h0
  obtain ⟨C, hC⟩ : ∃ C, cb = a + C := ⟨cb - a, by omega⟩
  subst hC
  obtain ⟨LR, hLR⟩ : ∃ LR, left.length = LR := ⟨_, rfl⟩
  obtain rfl : N = a + LR := by have := HLL.out; omega
  have hRC : LR ≤ C := by omega
  have c0 : ¬ C = 0 := by omega
  have r0 : ¬ LR = 0 := by omega
  have hca : ¬ a + C = a := by omega
  have HNE := Lib.hid hne; have HLR := Lib.hid hLR; clear hne hLR h0 a1 a2 a3
  have a1 : (a : Int) ≤ (a : Int) + (LR : Int) := by omega
  have a2 : (a : Int) ≤ (a : Int) + (C : Int) := by omega
  have a3 : (a : Int) + (LR : Int) ≤ (a : Int) + (C : Int) := by omega
  by_cases h13 : left.length < 13
  · have HW := Lib.hid (why_few (n := rs.length) (k := k) h13)
    have l13 : LR < 13 := by rw [← HLR.out]; exact h13
    clear h13
    go_enter Tryd.func62, Tryd.ntmps62
    go_wp2_with fail
    refine wp_region_schG (fun W => W.cell? ⟨rb, 0, none⟩ = some (.slice (some ad) (a + LR) (a + C)) ∧ W.cell? ⟨rb, 1, none⟩ = some (.int .i64 (a : Int)) ∧ W.cell? ⟨rb, 2, none⟩ = some (.int .u32 (k : Int)) ∧ W.cell? ⟨rb, 3, none⟩ = some (.slice Al n cl) ∧ rb < W.heap.size ∧ Within w W) 9 (.firm 0 (.firm 1 (.firm 2 (.firm 3 (.firm 4 (.firm 5 (.firm 6 (.firm 7 (.firm 8 (.one 9 .nil)))))))))) (by kernel_rfl) (by kernel_rfl) ⟨p0, p1, p2, p3, hrb, Within.refl _⟩ ?_
    rintro w0 ⟨p0, p1, p2, p3, hrb, hw0⟩
    try simp only [Act.put, List.setIfInBounds_toArray, List.set_cons_zero, List.set_cons_succ]
    iterate 9
      apply sch_firm rfl rfl (by repeat (first | with_reducible exact Within.refl _ | with_reducible assumption | with_reducible refine Within.alloc ?_ _ | with_reducible refine Within.drew ?_ | with_reducible refine Within.drewN ?_ _ | with_reducible refine Within.setCell ?_ (by first | (simp; done) | (simp; omega)) _ | with_reducible refine Within.trans ?_ (by assumption)))
      · intro wq hq
        have hcq := hq.cells
        clear hq
        go_simp
        rfl
      try simp only [Act.put, List.setIfInBounds_toArray, List.set_cons_zero, List.set_cons_succ]
    refine sch_one rfl rfl (fun K hK => ?_)
    go_simp
    refine hK _ _ (fun h => absurd h (by decide)) ?_
    clear hK K
    try simp only [Act.put, List.setIfInBounds_toArray, List.set_cons_zero, List.set_cons_succ]
    refine sch_nil ?_
    go_wp2
    go_ret2
    exact NextPost.why HNE.out HW.out (by decide) (by repeat (first | with_reducible exact Within.refl _ | with_reducible assumption | with_reducible refine Within.alloc ?_ _ | with_reducible refine Within.drew ?_ | with_reducible refine Within.drewN ?_ _ | with_reducible refine Within.setCell ?_ (by first | (simp; done) | (simp; omega)) _ | with_reducible refine Within.trans ?_ (by assumption)))
  obtain ⟨m, hm⟩ : ∃ m, LR = m + 13 := ⟨LR - 13, by have := HLR.out; omega⟩
  subst hm
  have a1 : (a : Int) ≤ (a : Int) + ((m : Int) + 13) := by omega
  have a3 : (a : Int) + ((m : Int) + 13) ≤ (a : Int) + (C : Int) := by omega
  have H13 := Lib.hid h13; clear h13
  obtain ⟨la, hla⟩ : ∃ la, la = ad.add a := ⟨_, rfl⟩
  rw [← hla] at HLS
  have NB : Hid (∀ (W : World) (i nn cc : Nat), i ≠ 0 → i + 4 ≤ m + 13 → 4 ≤ nn → SlAt W (some la) (u8v left) → Calls Tryd.prog 81 #[.slice (some (la.add i)) nn cc] W fun e w' => e = .returned (.int .u32 (at4 left i : Int)) ∧ Within W w') := Lib.hid (fun W i nn cc _ hi hn h => by have := number_any (la.add i) nn cc (left.drop i) (HLB.out.drop i) (by rw [List.length_drop, HLR.out]; omega) hn W (left_at h i); exact this)
  have SB : Hid (∀ (W : World) (i : Nat), i ≤ m + 13 → i ≤ 1048600 → SlAt W (some la) (u8v left) → Calls Tryd.prog 82 #[.int .u32 (k : Int), .slice (some la) i C] W fun e w' => e = .returned (.int .u32 (linkV k (left.take i) : Int)) ∧ Within W w') := Lib.hid (fun W i hi hi2 h => by
    have hl : (left.take i).length = i := by rw [List.length_take, HLR.out]; omega
    have h2 : SlAt W (some la) (u8v (left.take i)) := by have := h.take i; unfold u8v at this ⊢; rwa [← List.map_take] at this
    have := jsum_any k hk (some la) C (left.take i) (HLB.out.take i) (by omega) W h2; rw [hl] at this; exact this)
  obtain ⟨x, hx⟩ : ∃ x, left.getD 0 0 = x := ⟨_, rfl⟩
  have KX : Hid (∀ W, SlAt W (some la) (u8v left) → W.cell? la = some (.int .u8 (x : Int))) := Lib.hid (fun W h => by obtain ⟨ad', e', _, hc⟩ := SlAt.at (l := left) (k := 0) (by exact h) (by rw [HLR.out]; omega); obtain rfl := Option.some.inj e'; rw [add_nought, hx] at hc; exact hc)
  have hxl : x < 256 := by rw [← hx]; exact HLB.out.at (by rw [HLR.out]; omega)
  obtain ⟨s1, hs1⟩ : ∃ s, at4 left 9 = s := ⟨_, rfl⟩
  obtain ⟨l1, hl1⟩ : ∃ s, linkV k (left.take 9) = s := ⟨_, rfl⟩
  obtain ⟨sz, hsz⟩ : ∃ s, at4 left 5 = s := ⟨_, rfl⟩
  obtain ⟨q, hq⟩ : ∃ s, at4 left 1 = s := ⟨_, rfl⟩
  have hszl : sz < 4294967296 := by rw [← hsz]; exact at4_lt HLB.out 5
  have hql : q < 4294967296 := by rw [← hq]; exact at4_lt HLB.out 1
  have NB9 := Lib.hid (fun W => NB.out W 9 (m + 4) (C - 9) (by decide) (by omega) (by omega))
  have NB5 := Lib.hid (fun W => NB.out W 5 (m + 8) (C - 5) (by decide) (by omega) (by omega))
  have NB1 := Lib.hid (fun W => NB.out W 1 (m + 12) (C - 1) (by decide) (by omega) (by omega))
  rw [hs1, add_plain' la (by decide)] at NB9
  rw [hsz, add_plain' la (by decide)] at NB5
  rw [hq, add_plain' la (by decide)] at NB1
  have SB9 := Lib.hid (fun W => SB.out W 9 (by omega) (by omega))
  rw [hl1] at SB9
  have HX := Lib.hid hx; have HS1 := Lib.hid hs1; have HL1 := Lib.hid hl1; have HSZ := Lib.hid hsz; have HQ := Lib.hid hq; clear hx hs1 hl1 hsz hq
  have e1 : (1 : Int) ≤ (m : Int) + 13 := by omega
  have e5 : (5 : Int) ≤ (m : Int) + 13 := by omega
  have e9 : (9 : Int) ≤ (m : Int) + 13 := by omega
  have f1 : (1 : Int) ≤ (C : Int) := by omega
  have f5 : (5 : Int) ≤ (C : Int) := by omega
  have f9 : (9 : Int) ≤ (C : Int) := by omega
  have g1 : ¬ C = 1 := by omega
  have g5 : ¬ C = 5 := by omega
  have g9 : ¬ C = 9 := by omega
  have e0' : (m : Int) + 13 ≤ (C : Int) := by omega
  have z0 : (0 : Int) < (m : Int) + 13 := by omega
  have h1 : 1 ≤ m + 13 := by omega
  have h5 : 5 ≤ m + 13 := by omega
  have h9 : 9 ≤ m + 13 := by omega
  have i1 : 1 ≤ C := by omega
  have i5 : 5 ≤ C := by omega
  have i9 : 9 ≤ C := by omega
  by_cases hsum : s1 = l1
  · obtain rfl := hsum
    have n1 : ((s1 : Int) != (s1 : Int)) = false := by simp
    have HSE : Hid (¬ at4 left 9 ≠ linkV k (left.take 9)) := Lib.hid (by rw [HS1.out, HL1.out]; exact fun h => h rfl)
    have cx : IntKind.i64.wrap (x : Int) = (x : Int) := by rw [IntKind.wrap_i64]; omega
    have cn : IntKind.i64.wrap (n : Int) = (n : Int) := by rw [IntKind.wrap_i64]; omega
    have cq : IntKind.i64.wrap (q : Int) = (q : Int) := by rw [IntKind.wrap_i64]; omega
    go_enter Tryd.func62, Tryd.ntmps62
    go_wp2_with fail
    refine wp_region_schG (fun W => W.cell? ⟨rb, 0, none⟩ = some (.slice (some ad) (a + (m + 13)) (a + C)) ∧ W.cell? ⟨rb, 1, none⟩ = some (.int .i64 (a : Int)) ∧ W.cell? ⟨rb, 2, none⟩ = some (.int .u32 (k : Int)) ∧ W.cell? ⟨rb, 3, none⟩ = some (.slice Al n cl) ∧ rb < W.heap.size ∧ Within w W) 9 (.firm 0 (.firm 1 (.firm 2 (.firm 3 (.firm 4 (.firm 5 (.firm 6 (.firm 7 (.firm 8 (.one 9 .nil)))))))))) (by kernel_rfl) (by kernel_rfl) ⟨p0, p1, p2, p3, hrb, Within.refl _⟩ ?_
    rintro w0 ⟨p0, p1, p2, p3, hrb, hwr⟩
    try simp only [Act.put, List.setIfInBounds_toArray, List.set_cons_zero, List.set_cons_succ]
    iterate 9
      apply sch_firm rfl rfl (by repeat (first | with_reducible exact Within.refl _ | with_reducible assumption | with_reducible refine Within.alloc ?_ _ | with_reducible refine Within.drew ?_ | with_reducible refine Within.drewN ?_ _ | with_reducible refine Within.setCell ?_ (by first | (simp; done) | (simp; omega)) _ | with_reducible refine Within.trans ?_ (by assumption)))
      · intro wq hq
        have hcq := hq.cells
        clear hq
        go_simp
        rfl
      try simp only [Act.put, List.setIfInBounds_toArray, List.set_cons_zero, List.set_cons_succ]
    refine sch_one rfl rfl (fun K hK => ?_)
    go_simp
    refine hK _ _ (fun h => absurd h (by decide)) ?_
    clear hK K
    try simp only [Act.put, List.setIfInBounds_toArray, List.set_cons_zero, List.set_cons_succ]
    refine sch_nil ?_
    rw [← hla]
    clear hla
    have hxx : Within w0 w0.drew := (by repeat (first | with_reducible exact Within.refl _ | with_reducible assumption | with_reducible refine Within.alloc ?_ _ | with_reducible refine Within.drew ?_ | with_reducible refine Within.drewN ?_ _ | with_reducible refine Within.setCell ?_ (by first | (simp; done) | (simp; omega)) _ | with_reducible refine Within.trans ?_ (by assumption)))
    have p0 := (hxx.cells _ _ hrb).trans p0
    have p1 := (hxx.cells _ _ hrb).trans p1
    have p2 := (hxx.cells _ _ hrb).trans p2
    have p3 := (hxx.cells _ _ hrb).trans p3
    have hrb := Nat.lt_of_lt_of_le hrb hxx.size
    have HWN : Hid (Within w w0.drew) := Lib.hid (hwr.trans hxx)
    clear hxx hwr
    go_wp2_with fail
    refine wp_region_schG (fun W => W.cell? ⟨rb, 0, none⟩ = some (.slice (some ad) (a + (m + 13)) (a + C)) ∧ W.cell? ⟨rb, 1, none⟩ = some (.int .i64 (a : Int)) ∧ W.cell? ⟨rb, 2, none⟩ = some (.int .u32 (k : Int)) ∧ W.cell? ⟨rb, 3, none⟩ = some (.slice Al n cl) ∧ rb < W.heap.size ∧ SlAt W (some la) (u8v left) ∧ Within w W) 10 (.firm 0 (.firm 1 (.firm 3 (.firm 4 (.firm 5 (.firm 6 (.firm 7 (.firm 8 (.one 2 (.one 9 (.one 10 .nil))))))))))) (by kernel_rfl) (by kernel_rfl) ⟨p0, p1, p2, p3, hrb, HLS.out.of HWN.out, HWN.out⟩ ?_
    rintro w0 ⟨p0, p1, p2, p3, hrb, hls, hwr⟩
    try simp only [Act.put, List.setIfInBounds_toArray, List.set_cons_zero, List.set_cons_succ]
    iterate 8
      apply sch_firm rfl rfl (by repeat (first | with_reducible exact Within.refl _ | with_reducible assumption | with_reducible refine Within.alloc ?_ _ | with_reducible refine Within.drew ?_ | with_reducible refine Within.drewN ?_ _ | with_reducible refine Within.setCell ?_ (by first | (simp; done) | (simp; omega)) _ | with_reducible refine Within.trans ?_ (by assumption)))
      · intro wq hq
        have hcq := hq.cells
        clear hq
        go_simp
        rfl
      try simp only [Act.put, List.setIfInBounds_toArray, List.set_cons_zero, List.set_cons_succ]
    refine sch_one rfl rfl (fun K hK => ?_)
    go_simp
    refine (NB9.out _ (by exact hls.of (by repeat (first | with_reducible exact Within.refl _ | with_reducible assumption | with_reducible refine Within.alloc ?_ _ | with_reducible refine Within.drew ?_ | with_reducible refine Within.drewN ?_ _ | with_reducible refine Within.setCell ?_ (by first | (simp; done) | (simp; omega)) _ | with_reducible refine Within.trans ?_ (by assumption))))).mono ?_; rintro e2 w2 ⟨rfl, h2⟩
    refine hK _ _ (fun _ => (by repeat (first | with_reducible exact Within.refl _ | with_reducible assumption | with_reducible refine Within.alloc ?_ _ | with_reducible refine Within.drew ?_ | with_reducible refine Within.drewN ?_ _ | with_reducible refine Within.setCell ?_ (by first | (simp; done) | (simp; omega)) _ | with_reducible refine Within.trans ?_ (by assumption)))) ?_
    clear hK K
    try simp only [Act.put, List.setIfInBounds_toArray, List.set_cons_zero, List.set_cons_succ]
    refine sch_one rfl rfl (fun K hK => ?_)
    go_simp
    refine (SB9.out _ (by exact hls.of (by repeat (first | with_reducible exact Within.refl _ | with_reducible assumption | with_reducible refine Within.alloc ?_ _ | with_reducible refine Within.drew ?_ | with_reducible refine Within.drewN ?_ _ | with_reducible refine Within.setCell ?_ (by first | (simp; done) | (simp; omega)) _ | with_reducible refine Within.trans ?_ (by assumption))))).mono ?_; rintro e3 w3 ⟨rfl, h3⟩
    refine hK _ _ (fun _ => (by repeat (first | with_reducible exact Within.refl _ | with_reducible assumption | with_reducible refine Within.alloc ?_ _ | with_reducible refine Within.drew ?_ | with_reducible refine Within.drewN ?_ _ | with_reducible refine Within.setCell ?_ (by first | (simp; done) | (simp; omega)) _ | with_reducible refine Within.trans ?_ (by assumption)))) ?_
    clear hK K
    try simp only [Act.put, List.setIfInBounds_toArray, List.set_cons_zero, List.set_cons_succ]
    refine sch_one rfl rfl (fun K hK => ?_)
    go_simp
    refine hK _ _ (fun h => absurd h (by decide)) ?_
    clear hK K
    try simp only [Act.put, List.setIfInBounds_toArray, List.set_cons_zero, List.set_cons_succ]
    refine sch_nil ?_
    have hxx : Within w0 w3 := (by repeat (first | with_reducible exact Within.refl _ | with_reducible assumption | with_reducible refine Within.alloc ?_ _ | with_reducible refine Within.drew ?_ | with_reducible refine Within.drewN ?_ _ | with_reducible refine Within.setCell ?_ (by first | (simp; done) | (simp; omega)) _ | with_reducible refine Within.trans ?_ (by assumption)))
    have p0 := (hxx.cells _ _ hrb).trans p0
    have p1 := (hxx.cells _ _ hrb).trans p1
    have p2 := (hxx.cells _ _ hrb).trans p2
    have p3 := (hxx.cells _ _ hrb).trans p3
    have hrb := Nat.lt_of_lt_of_le hrb hxx.size
    have HWN : Hid (Within w w3) := Lib.hid (hwr.trans hxx)
    clear hxx hwr
    clear h2 h3 hls
    go_wp2_with fail
    refine wp_region_schG (fun W => W.cell? ⟨rb, 0, none⟩ = some (.slice (some ad) (a + (m + 13)) (a + C)) ∧ W.cell? ⟨rb, 1, none⟩ = some (.int .i64 (a : Int)) ∧ W.cell? ⟨rb, 2, none⟩ = some (.int .u32 (k : Int)) ∧ W.cell? ⟨rb, 3, none⟩ = some (.slice Al n cl) ∧ rb < W.heap.size ∧ SlAt W (some la) (u8v left) ∧ Within w W) 8 (.firm 0 (.firm 1 (.firm 2 (.firm 3 (.firm 4 (.firm 5 (.one 6 (.firm 7 (.one 8 .nil))))))))) (by kernel_rfl) (by kernel_rfl) ⟨p0, p1, p2, p3, hrb, HLS.out.of HWN.out, HWN.out⟩ ?_
    rintro w0 ⟨p0, p1, p2, p3, hrb, hls, hwr⟩
    try simp only [Act.put, List.setIfInBounds_toArray, List.set_cons_zero, List.set_cons_succ]
    iterate 6
      apply sch_firm rfl rfl (by repeat (first | with_reducible exact Within.refl _ | with_reducible assumption | with_reducible refine Within.alloc ?_ _ | with_reducible refine Within.drew ?_ | with_reducible refine Within.drewN ?_ _ | with_reducible refine Within.setCell ?_ (by first | (simp; done) | (simp; omega)) _ | with_reducible refine Within.trans ?_ (by assumption)))
      · intro wq hq
        have hcq := hq.cells
        have kx := KX.out wq (hls.of hq)
        clear hq
        go_simp
        rfl
      try simp only [Act.put, List.setIfInBounds_toArray, List.set_cons_zero, List.set_cons_succ]
    refine sch_one rfl rfl (fun K hK => ?_)
    go_simp
    refine (NB5.out _ (by exact hls.of (by repeat (first | with_reducible exact Within.refl _ | with_reducible assumption | with_reducible refine Within.alloc ?_ _ | with_reducible refine Within.drew ?_ | with_reducible refine Within.drewN ?_ _ | with_reducible refine Within.setCell ?_ (by first | (simp; done) | (simp; omega)) _ | with_reducible refine Within.trans ?_ (by assumption))))).mono ?_; rintro e3 w3 ⟨rfl, h3⟩
    refine hK _ _ (fun _ => (by repeat (first | with_reducible exact Within.refl _ | with_reducible assumption | with_reducible refine Within.alloc ?_ _ | with_reducible refine Within.drew ?_ | with_reducible refine Within.drewN ?_ _ | with_reducible refine Within.setCell ?_ (by first | (simp; done) | (simp; omega)) _ | with_reducible refine Within.trans ?_ (by assumption)))) ?_
    clear hK K
    try simp only [Act.put, List.setIfInBounds_toArray, List.set_cons_zero, List.set_cons_succ]
    apply sch_firm rfl rfl (by repeat (first | with_reducible exact Within.refl _ | with_reducible assumption | with_reducible refine Within.alloc ?_ _ | with_reducible refine Within.drew ?_ | with_reducible refine Within.drewN ?_ _ | with_reducible refine Within.setCell ?_ (by first | (simp; done) | (simp; omega)) _ | with_reducible refine Within.trans ?_ (by assumption)))
    · intro wq hq
      have hcq := hq.cells
      have kx := KX.out wq (hls.of hq)
      clear hq
      go_simp
      rfl
    try simp only [Act.put, List.setIfInBounds_toArray, List.set_cons_zero, List.set_cons_succ]
    refine sch_one rfl rfl (fun K hK => ?_)
    go_simp
    refine hK _ _ (fun h => absurd h (by decide)) ?_
    clear hK K
    try simp only [Act.put, List.setIfInBounds_toArray, List.set_cons_zero, List.set_cons_succ]
    refine sch_nil ?_
    have hxx : Within w0 w3 := (by repeat (first | with_reducible exact Within.refl _ | with_reducible assumption | with_reducible refine Within.alloc ?_ _ | with_reducible refine Within.drew ?_ | with_reducible refine Within.drewN ?_ _ | with_reducible refine Within.setCell ?_ (by first | (simp; done) | (simp; omega)) _ | with_reducible refine Within.trans ?_ (by assumption)))
    have p0 := (hxx.cells _ _ hrb).trans p0
    have p1 := (hxx.cells _ _ hrb).trans p1
    have p2 := (hxx.cells _ _ hrb).trans p2
    have p3 := (hxx.cells _ _ hrb).trans p3
    have hrb := Nat.lt_of_lt_of_le hrb hxx.size
    have HWN : Hid (Within w w3) := Lib.hid (hwr.trans hxx)
    clear hxx hwr
    clear h3 hls
    by_cases x1 : x < 1
    · have u1 : decide ((x : Int) < 1) = true := decide_eq_true (by omega)
      have HW := Lib.hid (why_form (b := left) (n := rs.length) (k := k) H13.out HSE.out (by rw [HX.out, HQ.out, HSZ.out, HN.out]; exact .inl x1))
      go_wp2_with fail
      refine wp_region_schG (fun W => W.cell? ⟨rb, 0, none⟩ = some (.slice (some ad) (a + (m + 13)) (a + C)) ∧ W.cell? ⟨rb, 1, none⟩ = some (.int .i64 (a : Int)) ∧ W.cell? ⟨rb, 2, none⟩ = some (.int .u32 (k : Int)) ∧ W.cell? ⟨rb, 3, none⟩ = some (.slice Al n cl) ∧ rb < W.heap.size ∧ SlAt W (some la) (u8v left) ∧ Within w W) 29 (.firm 0 (.firm 1 (.firm 2 (.firm 3 (.firm 4 (.firm 5 (.firm 6 (.firm 7 (.firm 8 (.firm 11 (.firm 12 (.firm 13 (.firm 14 (.firm 15 (.one 9 (.firm 10 (.firm 16 (.firm 17 (.firm 18 (.firm 19 (.firm 20 (.firm 21 (.firm 22 (.firm 23 (.firm 24 (.firm 25 (.firm 26 (.firm 27 (.firm 28 (.one 29 .nil)))))))))))))))))))))))))))))) (by kernel_rfl) (by kernel_rfl) ⟨p0, p1, p2, p3, hrb, HLS.out.of HWN.out, HWN.out⟩ ?_
      rintro w0 ⟨p0, p1, p2, p3, hrb, hls, hwr⟩
      try simp only [Act.put, List.setIfInBounds_toArray, List.set_cons_zero, List.set_cons_succ]
      iterate 3
        apply sch_firm rfl rfl (by repeat (first | with_reducible exact Within.refl _ | with_reducible assumption | with_reducible refine Within.alloc ?_ _ | with_reducible refine Within.drew ?_ | with_reducible refine Within.drewN ?_ _ | with_reducible refine Within.setCell ?_ (by first | (simp; done) | (simp; omega)) _ | with_reducible refine Within.trans ?_ (by assumption)))
        · intro wq hq
          have hcq := hq.cells
          clear hq
          go_simp
          rfl
        try simp only [Act.put, List.setIfInBounds_toArray, List.set_cons_zero, List.set_cons_succ]
      iterate 2
        refine sch_skip rfl (by first | rfl | decide | (simp [Region.wanted, yielded]; done)) (by repeat (first | with_reducible exact Within.refl _ | with_reducible assumption | with_reducible refine Within.alloc ?_ _ | with_reducible refine Within.drew ?_ | with_reducible refine Within.drewN ?_ _ | with_reducible refine Within.setCell ?_ (by first | (simp; done) | (simp; omega)) _ | with_reducible refine Within.trans ?_ (by assumption))) ?_
        try simp only [Act.put, List.setIfInBounds_toArray, List.set_cons_zero, List.set_cons_succ]
      iterate 2
        apply sch_firm rfl rfl (by repeat (first | with_reducible exact Within.refl _ | with_reducible assumption | with_reducible refine Within.alloc ?_ _ | with_reducible refine Within.drew ?_ | with_reducible refine Within.drewN ?_ _ | with_reducible refine Within.setCell ?_ (by first | (simp; done) | (simp; omega)) _ | with_reducible refine Within.trans ?_ (by assumption)))
        · intro wq hq
          have hcq := hq.cells
          clear hq
          go_simp
          rfl
        try simp only [Act.put, List.setIfInBounds_toArray, List.set_cons_zero, List.set_cons_succ]
      iterate 7
        refine sch_skip rfl (by first | rfl | decide | (simp [Region.wanted, yielded]; done)) (by repeat (first | with_reducible exact Within.refl _ | with_reducible assumption | with_reducible refine Within.alloc ?_ _ | with_reducible refine Within.drew ?_ | with_reducible refine Within.drewN ?_ _ | with_reducible refine Within.setCell ?_ (by first | (simp; done) | (simp; omega)) _ | with_reducible refine Within.trans ?_ (by assumption))) ?_
        try simp only [Act.put, List.setIfInBounds_toArray, List.set_cons_zero, List.set_cons_succ]
      refine sch_one_skip rfl (by first | rfl | decide | (simp [Region.wanted, yielded]; done)) (by repeat (first | with_reducible exact Within.refl _ | with_reducible assumption | with_reducible refine Within.alloc ?_ _ | with_reducible refine Within.drew ?_ | with_reducible refine Within.drewN ?_ _ | with_reducible refine Within.setCell ?_ (by first | (simp; done) | (simp; omega)) _ | with_reducible refine Within.trans ?_ (by assumption))) ?_
      try simp only [Act.put, List.setIfInBounds_toArray, List.set_cons_zero, List.set_cons_succ]
      iterate 2
        refine sch_skip rfl (by first | rfl | decide | (simp [Region.wanted, yielded]; done)) (by repeat (first | with_reducible exact Within.refl _ | with_reducible assumption | with_reducible refine Within.alloc ?_ _ | with_reducible refine Within.drew ?_ | with_reducible refine Within.drewN ?_ _ | with_reducible refine Within.setCell ?_ (by first | (simp; done) | (simp; omega)) _ | with_reducible refine Within.trans ?_ (by assumption))) ?_
        try simp only [Act.put, List.setIfInBounds_toArray, List.set_cons_zero, List.set_cons_succ]
      iterate 2
        apply sch_firm rfl rfl (by repeat (first | with_reducible exact Within.refl _ | with_reducible assumption | with_reducible refine Within.alloc ?_ _ | with_reducible refine Within.drew ?_ | with_reducible refine Within.drewN ?_ _ | with_reducible refine Within.setCell ?_ (by first | (simp; done) | (simp; omega)) _ | with_reducible refine Within.trans ?_ (by assumption)))
        · intro wq hq
          have hcq := hq.cells
          clear hq
          go_simp
          rfl
        try simp only [Act.put, List.setIfInBounds_toArray, List.set_cons_zero, List.set_cons_succ]
      iterate 2
        refine sch_skip rfl (by first | rfl | decide | (simp [Region.wanted, yielded]; done)) (by repeat (first | with_reducible exact Within.refl _ | with_reducible assumption | with_reducible refine Within.alloc ?_ _ | with_reducible refine Within.drew ?_ | with_reducible refine Within.drewN ?_ _ | with_reducible refine Within.setCell ?_ (by first | (simp; done) | (simp; omega)) _ | with_reducible refine Within.trans ?_ (by assumption))) ?_
        try simp only [Act.put, List.setIfInBounds_toArray, List.set_cons_zero, List.set_cons_succ]
      iterate 2
        apply sch_firm rfl rfl (by repeat (first | with_reducible exact Within.refl _ | with_reducible assumption | with_reducible refine Within.alloc ?_ _ | with_reducible refine Within.drew ?_ | with_reducible refine Within.drewN ?_ _ | with_reducible refine Within.setCell ?_ (by first | (simp; done) | (simp; omega)) _ | with_reducible refine Within.trans ?_ (by assumption)))
        · intro wq hq
          have hcq := hq.cells
          clear hq
          go_simp
          rfl
        try simp only [Act.put, List.setIfInBounds_toArray, List.set_cons_zero, List.set_cons_succ]
      iterate 6
        refine sch_skip rfl (by first | rfl | decide | (simp [Region.wanted, yielded]; done)) (by repeat (first | with_reducible exact Within.refl _ | with_reducible assumption | with_reducible refine Within.alloc ?_ _ | with_reducible refine Within.drew ?_ | with_reducible refine Within.drewN ?_ _ | with_reducible refine Within.setCell ?_ (by first | (simp; done) | (simp; omega)) _ | with_reducible refine Within.trans ?_ (by assumption))) ?_
        try simp only [Act.put, List.setIfInBounds_toArray, List.set_cons_zero, List.set_cons_succ]
      refine sch_one rfl rfl (fun K hK => ?_)
      go_simp
      refine hK _ _ (fun h => absurd h (by decide)) ?_
      clear hK K
      try simp only [Act.put, List.setIfInBounds_toArray, List.set_cons_zero, List.set_cons_succ]
      refine sch_nil ?_
      go_wp2
      go_ret2
      exact NextPost.why HNE.out HW.out (by decide) (by repeat (first | with_reducible exact Within.refl _ | with_reducible assumption | with_reducible refine Within.alloc ?_ _ | with_reducible refine Within.drew ?_ | with_reducible refine Within.drewN ?_ _ | with_reducible refine Within.setCell ?_ (by first | (simp; done) | (simp; omega)) _ | with_reducible refine Within.trans ?_ (by assumption)))
    · by_cases x2 : 3 < x
      · have u1 : decide ((x : Int) < 1) = false := decide_eq_false (by omega)
        have u2 : decide ((x : Int) > 3) = true := decide_eq_true (by omega)
        have HW := Lib.hid (why_form (b := left) (n := rs.length) (k := k) H13.out HSE.out (by rw [HX.out, HQ.out, HSZ.out, HN.out]; exact .inr (.inl x2)))
        go_wp2_with fail
        refine wp_region_schG (fun W => W.cell? ⟨rb, 0, none⟩ = some (.slice (some ad) (a + (m + 13)) (a + C)) ∧ W.cell? ⟨rb, 1, none⟩ = some (.int .i64 (a : Int)) ∧ W.cell? ⟨rb, 2, none⟩ = some (.int .u32 (k : Int)) ∧ W.cell? ⟨rb, 3, none⟩ = some (.slice Al n cl) ∧ rb < W.heap.size ∧ SlAt W (some la) (u8v left) ∧ Within w W) 29 (.firm 0 (.firm 1 (.firm 2 (.firm 3 (.firm 4 (.firm 5 (.firm 6 (.firm 7 (.firm 8 (.firm 11 (.firm 12 (.firm 13 (.firm 14 (.firm 15 (.one 9 (.firm 10 (.firm 16 (.firm 17 (.firm 18 (.firm 19 (.firm 20 (.firm 21 (.firm 22 (.firm 23 (.firm 24 (.firm 25 (.firm 26 (.firm 27 (.firm 28 (.one 29 .nil)))))))))))))))))))))))))))))) (by kernel_rfl) (by kernel_rfl) ⟨p0, p1, p2, p3, hrb, HLS.out.of HWN.out, HWN.out⟩ ?_
        rintro w0 ⟨p0, p1, p2, p3, hrb, hls, hwr⟩
        try simp only [Act.put, List.setIfInBounds_toArray, List.set_cons_zero, List.set_cons_succ]
        iterate 3
          apply sch_firm rfl rfl (by repeat (first | with_reducible exact Within.refl _ | with_reducible assumption | with_reducible refine Within.alloc ?_ _ | with_reducible refine Within.drew ?_ | with_reducible refine Within.drewN ?_ _ | with_reducible refine Within.setCell ?_ (by first | (simp; done) | (simp; omega)) _ | with_reducible refine Within.trans ?_ (by assumption)))
          · intro wq hq
            have hcq := hq.cells
            clear hq
            go_simp
            rfl
          try simp only [Act.put, List.setIfInBounds_toArray, List.set_cons_zero, List.set_cons_succ]
        iterate 2
          apply sch_want rfl (by first | rfl | decide | (simp [Region.wanted, yielded]; done)) (by repeat (first | with_reducible exact Within.refl _ | with_reducible assumption | with_reducible refine Within.alloc ?_ _ | with_reducible refine Within.drew ?_ | with_reducible refine Within.drewN ?_ _ | with_reducible refine Within.setCell ?_ (by first | (simp; done) | (simp; omega)) _ | with_reducible refine Within.trans ?_ (by assumption)))
          · intro wq hq
            have hcq := hq.cells
            clear hq
            go_simp
            rfl
          try simp only [Act.put, List.setIfInBounds_toArray, List.set_cons_zero, List.set_cons_succ]
        iterate 2
          apply sch_firm rfl rfl (by repeat (first | with_reducible exact Within.refl _ | with_reducible assumption | with_reducible refine Within.alloc ?_ _ | with_reducible refine Within.drew ?_ | with_reducible refine Within.drewN ?_ _ | with_reducible refine Within.setCell ?_ (by first | (simp; done) | (simp; omega)) _ | with_reducible refine Within.trans ?_ (by assumption)))
          · intro wq hq
            have hcq := hq.cells
            clear hq
            go_simp
            rfl
          try simp only [Act.put, List.setIfInBounds_toArray, List.set_cons_zero, List.set_cons_succ]
        iterate 7
          refine sch_skip rfl (by first | rfl | decide | (simp [Region.wanted, yielded]; done)) (by repeat (first | with_reducible exact Within.refl _ | with_reducible assumption | with_reducible refine Within.alloc ?_ _ | with_reducible refine Within.drew ?_ | with_reducible refine Within.drewN ?_ _ | with_reducible refine Within.setCell ?_ (by first | (simp; done) | (simp; omega)) _ | with_reducible refine Within.trans ?_ (by assumption))) ?_
          try simp only [Act.put, List.setIfInBounds_toArray, List.set_cons_zero, List.set_cons_succ]
        refine sch_one_skip rfl (by first | rfl | decide | (simp [Region.wanted, yielded]; done)) (by repeat (first | with_reducible exact Within.refl _ | with_reducible assumption | with_reducible refine Within.alloc ?_ _ | with_reducible refine Within.drew ?_ | with_reducible refine Within.drewN ?_ _ | with_reducible refine Within.setCell ?_ (by first | (simp; done) | (simp; omega)) _ | with_reducible refine Within.trans ?_ (by assumption))) ?_
        try simp only [Act.put, List.setIfInBounds_toArray, List.set_cons_zero, List.set_cons_succ]
        iterate 2
          refine sch_skip rfl (by first | rfl | decide | (simp [Region.wanted, yielded]; done)) (by repeat (first | with_reducible exact Within.refl _ | with_reducible assumption | with_reducible refine Within.alloc ?_ _ | with_reducible refine Within.drew ?_ | with_reducible refine Within.drewN ?_ _ | with_reducible refine Within.setCell ?_ (by first | (simp; done) | (simp; omega)) _ | with_reducible refine Within.trans ?_ (by assumption))) ?_
          try simp only [Act.put, List.setIfInBounds_toArray, List.set_cons_zero, List.set_cons_succ]
        iterate 2
          apply sch_firm rfl rfl (by repeat (first | with_reducible exact Within.refl _ | with_reducible assumption | with_reducible refine Within.alloc ?_ _ | with_reducible refine Within.drew ?_ | with_reducible refine Within.drewN ?_ _ | with_reducible refine Within.setCell ?_ (by first | (simp; done) | (simp; omega)) _ | with_reducible refine Within.trans ?_ (by assumption)))
          · intro wq hq
            have hcq := hq.cells
            clear hq
            go_simp
            rfl
          try simp only [Act.put, List.setIfInBounds_toArray, List.set_cons_zero, List.set_cons_succ]
        iterate 2
          refine sch_skip rfl (by first | rfl | decide | (simp [Region.wanted, yielded]; done)) (by repeat (first | with_reducible exact Within.refl _ | with_reducible assumption | with_reducible refine Within.alloc ?_ _ | with_reducible refine Within.drew ?_ | with_reducible refine Within.drewN ?_ _ | with_reducible refine Within.setCell ?_ (by first | (simp; done) | (simp; omega)) _ | with_reducible refine Within.trans ?_ (by assumption))) ?_
          try simp only [Act.put, List.setIfInBounds_toArray, List.set_cons_zero, List.set_cons_succ]
        iterate 2
          apply sch_firm rfl rfl (by repeat (first | with_reducible exact Within.refl _ | with_reducible assumption | with_reducible refine Within.alloc ?_ _ | with_reducible refine Within.drew ?_ | with_reducible refine Within.drewN ?_ _ | with_reducible refine Within.setCell ?_ (by first | (simp; done) | (simp; omega)) _ | with_reducible refine Within.trans ?_ (by assumption)))
          · intro wq hq
            have hcq := hq.cells
            clear hq
            go_simp
            rfl
          try simp only [Act.put, List.setIfInBounds_toArray, List.set_cons_zero, List.set_cons_succ]
        iterate 6
          refine sch_skip rfl (by first | rfl | decide | (simp [Region.wanted, yielded]; done)) (by repeat (first | with_reducible exact Within.refl _ | with_reducible assumption | with_reducible refine Within.alloc ?_ _ | with_reducible refine Within.drew ?_ | with_reducible refine Within.drewN ?_ _ | with_reducible refine Within.setCell ?_ (by first | (simp; done) | (simp; omega)) _ | with_reducible refine Within.trans ?_ (by assumption))) ?_
          try simp only [Act.put, List.setIfInBounds_toArray, List.set_cons_zero, List.set_cons_succ]
        refine sch_one rfl rfl (fun K hK => ?_)
        go_simp
        refine hK _ _ (fun h => absurd h (by decide)) ?_
        clear hK K
        try simp only [Act.put, List.setIfInBounds_toArray, List.set_cons_zero, List.set_cons_succ]
        refine sch_nil ?_
        go_wp2
        go_ret2
        exact NextPost.why HNE.out HW.out (by decide) (by repeat (first | with_reducible exact Within.refl _ | with_reducible assumption | with_reducible refine Within.alloc ?_ _ | with_reducible refine Within.drew ?_ | with_reducible refine Within.drewN ?_ _ | with_reducible refine Within.setCell ?_ (by first | (simp; done) | (simp; omega)) _ | with_reducible refine Within.trans ?_ (by assumption)))
      · by_cases x3 : q = n
        · by_cases x4 : 1048576 < sz
          · have u1 : decide ((x : Int) < 1) = false := decide_eq_false (by omega)
            have u2 : decide ((x : Int) > 3) = false := decide_eq_false (by omega)
            have u3 : ((q : Int) != (n : Int)) = false := by rw [bne_eq_false_iff_eq]; omega
            have u4 : decide ((sz : Int) > 1048576) = true := decide_eq_true (by omega)
            have HW := Lib.hid (why_form (b := left) (n := rs.length) (k := k) H13.out HSE.out (by rw [HX.out, HQ.out, HSZ.out, HN.out]; exact .inr (.inr (.inr (.inl x4)))))
            go_wp2_with fail
            refine wp_region_schG (fun W => W.cell? ⟨rb, 0, none⟩ = some (.slice (some ad) (a + (m + 13)) (a + C)) ∧ W.cell? ⟨rb, 1, none⟩ = some (.int .i64 (a : Int)) ∧ W.cell? ⟨rb, 2, none⟩ = some (.int .u32 (k : Int)) ∧ W.cell? ⟨rb, 3, none⟩ = some (.slice Al n cl) ∧ rb < W.heap.size ∧ SlAt W (some la) (u8v left) ∧ Within w W) 29 (.firm 0 (.firm 1 (.firm 2 (.firm 3 (.firm 4 (.firm 5 (.firm 6 (.firm 7 (.firm 8 (.firm 11 (.firm 12 (.firm 13 (.firm 14 (.firm 15 (.one 9 (.firm 10 (.firm 16 (.firm 17 (.firm 18 (.firm 19 (.firm 20 (.firm 21 (.firm 22 (.firm 23 (.firm 24 (.firm 25 (.firm 26 (.firm 27 (.firm 28 (.one 29 .nil)))))))))))))))))))))))))))))) (by kernel_rfl) (by kernel_rfl) ⟨p0, p1, p2, p3, hrb, HLS.out.of HWN.out, HWN.out⟩ ?_
            rintro w0 ⟨p0, p1, p2, p3, hrb, hls, hwr⟩
            try simp only [Act.put, List.setIfInBounds_toArray, List.set_cons_zero, List.set_cons_succ]
            iterate 3
              apply sch_firm rfl rfl (by repeat (first | with_reducible exact Within.refl _ | with_reducible assumption | with_reducible refine Within.alloc ?_ _ | with_reducible refine Within.drew ?_ | with_reducible refine Within.drewN ?_ _ | with_reducible refine Within.setCell ?_ (by first | (simp; done) | (simp; omega)) _ | with_reducible refine Within.trans ?_ (by assumption)))
              · intro wq hq
                have hcq := hq.cells
                clear hq
                go_simp
                rfl
              try simp only [Act.put, List.setIfInBounds_toArray, List.set_cons_zero, List.set_cons_succ]
            iterate 2
              apply sch_want rfl (by first | rfl | decide | (simp [Region.wanted, yielded]; done)) (by repeat (first | with_reducible exact Within.refl _ | with_reducible assumption | with_reducible refine Within.alloc ?_ _ | with_reducible refine Within.drew ?_ | with_reducible refine Within.drewN ?_ _ | with_reducible refine Within.setCell ?_ (by first | (simp; done) | (simp; omega)) _ | with_reducible refine Within.trans ?_ (by assumption)))
              · intro wq hq
                have hcq := hq.cells
                clear hq
                go_simp
                rfl
              try simp only [Act.put, List.setIfInBounds_toArray, List.set_cons_zero, List.set_cons_succ]
            iterate 2
              apply sch_firm rfl rfl (by repeat (first | with_reducible exact Within.refl _ | with_reducible assumption | with_reducible refine Within.alloc ?_ _ | with_reducible refine Within.drew ?_ | with_reducible refine Within.drewN ?_ _ | with_reducible refine Within.setCell ?_ (by first | (simp; done) | (simp; omega)) _ | with_reducible refine Within.trans ?_ (by assumption)))
              · intro wq hq
                have hcq := hq.cells
                clear hq
                go_simp
                rfl
              try simp only [Act.put, List.setIfInBounds_toArray, List.set_cons_zero, List.set_cons_succ]
            iterate 7
              apply sch_want rfl (by first | rfl | decide | (simp [Region.wanted, yielded]; done)) (by repeat (first | with_reducible exact Within.refl _ | with_reducible assumption | with_reducible refine Within.alloc ?_ _ | with_reducible refine Within.drew ?_ | with_reducible refine Within.drewN ?_ _ | with_reducible refine Within.setCell ?_ (by first | (simp; done) | (simp; omega)) _ | with_reducible refine Within.trans ?_ (by assumption)))
              · intro wq hq
                have hcq := hq.cells
                clear hq
                go_simp
                rfl
              try simp only [Act.put, List.setIfInBounds_toArray, List.set_cons_zero, List.set_cons_succ]
            refine sch_one_want rfl (by first | rfl | decide | (simp [Region.wanted, yielded]; done)) (fun K hK => ?_)
            go_simp
            refine (NB1.out _ (by exact hls.of (by repeat (first | with_reducible exact Within.refl _ | with_reducible assumption | with_reducible refine Within.alloc ?_ _ | with_reducible refine Within.drew ?_ | with_reducible refine Within.drewN ?_ _ | with_reducible refine Within.setCell ?_ (by first | (simp; done) | (simp; omega)) _ | with_reducible refine Within.trans ?_ (by assumption))))).mono ?_; rintro e4 w4 ⟨rfl, h4⟩
            refine hK _ _ (fun _ => (by repeat (first | with_reducible exact Within.refl _ | with_reducible assumption | with_reducible refine Within.alloc ?_ _ | with_reducible refine Within.drew ?_ | with_reducible refine Within.drewN ?_ _ | with_reducible refine Within.setCell ?_ (by first | (simp; done) | (simp; omega)) _ | with_reducible refine Within.trans ?_ (by assumption)))) ?_
            clear hK K
            try simp only [Act.put, List.setIfInBounds_toArray, List.set_cons_zero, List.set_cons_succ]
            iterate 2
              apply sch_want rfl (by first | rfl | decide | (simp [Region.wanted, yielded]; done)) (by repeat (first | with_reducible exact Within.refl _ | with_reducible assumption | with_reducible refine Within.alloc ?_ _ | with_reducible refine Within.drew ?_ | with_reducible refine Within.drewN ?_ _ | with_reducible refine Within.setCell ?_ (by first | (simp; done) | (simp; omega)) _ | with_reducible refine Within.trans ?_ (by assumption)))
              · intro wq hq
                have hcq := hq.cells
                clear hq
                go_simp
                rfl
              try simp only [Act.put, List.setIfInBounds_toArray, List.set_cons_zero, List.set_cons_succ]
            iterate 2
              apply sch_firm rfl rfl (by repeat (first | with_reducible exact Within.refl _ | with_reducible assumption | with_reducible refine Within.alloc ?_ _ | with_reducible refine Within.drew ?_ | with_reducible refine Within.drewN ?_ _ | with_reducible refine Within.setCell ?_ (by first | (simp; done) | (simp; omega)) _ | with_reducible refine Within.trans ?_ (by assumption)))
              · intro wq hq
                have hcq := hq.cells
                clear hq
                go_simp
                rfl
              try simp only [Act.put, List.setIfInBounds_toArray, List.set_cons_zero, List.set_cons_succ]
            iterate 2
              apply sch_want rfl (by first | rfl | decide | (simp [Region.wanted, yielded]; done)) (by repeat (first | with_reducible exact Within.refl _ | with_reducible assumption | with_reducible refine Within.alloc ?_ _ | with_reducible refine Within.drew ?_ | with_reducible refine Within.drewN ?_ _ | with_reducible refine Within.setCell ?_ (by first | (simp; done) | (simp; omega)) _ | with_reducible refine Within.trans ?_ (by assumption)))
              · intro wq hq
                have hcq := hq.cells
                clear hq
                go_simp
                rfl
              try simp only [Act.put, List.setIfInBounds_toArray, List.set_cons_zero, List.set_cons_succ]
            iterate 2
              apply sch_firm rfl rfl (by repeat (first | with_reducible exact Within.refl _ | with_reducible assumption | with_reducible refine Within.alloc ?_ _ | with_reducible refine Within.drew ?_ | with_reducible refine Within.drewN ?_ _ | with_reducible refine Within.setCell ?_ (by first | (simp; done) | (simp; omega)) _ | with_reducible refine Within.trans ?_ (by assumption)))
              · intro wq hq
                have hcq := hq.cells
                clear hq
                go_simp
                rfl
              try simp only [Act.put, List.setIfInBounds_toArray, List.set_cons_zero, List.set_cons_succ]
            iterate 6
              refine sch_skip rfl (by first | rfl | decide | (simp [Region.wanted, yielded]; done)) (by repeat (first | with_reducible exact Within.refl _ | with_reducible assumption | with_reducible refine Within.alloc ?_ _ | with_reducible refine Within.drew ?_ | with_reducible refine Within.drewN ?_ _ | with_reducible refine Within.setCell ?_ (by first | (simp; done) | (simp; omega)) _ | with_reducible refine Within.trans ?_ (by assumption))) ?_
              try simp only [Act.put, List.setIfInBounds_toArray, List.set_cons_zero, List.set_cons_succ]
            refine sch_one rfl rfl (fun K hK => ?_)
            go_simp
            refine hK _ _ (fun h => absurd h (by decide)) ?_
            clear hK K
            try simp only [Act.put, List.setIfInBounds_toArray, List.set_cons_zero, List.set_cons_succ]
            refine sch_nil ?_
            go_wp2
            go_ret2
            exact NextPost.why HNE.out HW.out (by decide) (by repeat (first | with_reducible exact Within.refl _ | with_reducible assumption | with_reducible refine Within.alloc ?_ _ | with_reducible refine Within.drew ?_ | with_reducible refine Within.drewN ?_ _ | with_reducible refine Within.setCell ?_ (by first | (simp; done) | (simp; omega)) _ | with_reducible refine Within.trans ?_ (by assumption)))
          · by_cases x5 : 1048576 ≤ n
            · have u1 : decide ((x : Int) < 1) = false := decide_eq_false (by omega)
              have u2 : decide ((x : Int) > 3) = false := decide_eq_false (by omega)
              have u3 : ((q : Int) != (n : Int)) = false := by rw [bne_eq_false_iff_eq]; omega
              have u4 : decide ((sz : Int) > 1048576) = false := decide_eq_false (by omega)
              have u5 : decide ((n : Int) ≥ 1048576) = true := decide_eq_true (by omega)
              have HW := Lib.hid (why_form (b := left) (n := rs.length) (k := k) H13.out HSE.out (by rw [HX.out, HQ.out, HSZ.out, HN.out]; exact .inr (.inr (.inr (.inr x5)))))
              go_wp2_with fail
              refine wp_region_schG (fun W => W.cell? ⟨rb, 0, none⟩ = some (.slice (some ad) (a + (m + 13)) (a + C)) ∧ W.cell? ⟨rb, 1, none⟩ = some (.int .i64 (a : Int)) ∧ W.cell? ⟨rb, 2, none⟩ = some (.int .u32 (k : Int)) ∧ W.cell? ⟨rb, 3, none⟩ = some (.slice Al n cl) ∧ rb < W.heap.size ∧ SlAt W (some la) (u8v left) ∧ Within w W) 29 (.firm 0 (.firm 1 (.firm 2 (.firm 3 (.firm 4 (.firm 5 (.firm 6 (.firm 7 (.firm 8 (.firm 11 (.firm 12 (.firm 13 (.firm 14 (.firm 15 (.one 9 (.firm 10 (.firm 16 (.firm 17 (.firm 18 (.firm 19 (.firm 20 (.firm 21 (.firm 22 (.firm 23 (.firm 24 (.firm 25 (.firm 26 (.firm 27 (.firm 28 (.one 29 .nil)))))))))))))))))))))))))))))) (by kernel_rfl) (by kernel_rfl) ⟨p0, p1, p2, p3, hrb, HLS.out.of HWN.out, HWN.out⟩ ?_
              rintro w0 ⟨p0, p1, p2, p3, hrb, hls, hwr⟩
              try simp only [Act.put, List.setIfInBounds_toArray, List.set_cons_zero, List.set_cons_succ]
              iterate 3
                apply sch_firm rfl rfl (by repeat (first | with_reducible exact Within.refl _ | with_reducible assumption | with_reducible refine Within.alloc ?_ _ | with_reducible refine Within.drew ?_ | with_reducible refine Within.drewN ?_ _ | with_reducible refine Within.setCell ?_ (by first | (simp; done) | (simp; omega)) _ | with_reducible refine Within.trans ?_ (by assumption)))
                · intro wq hq
                  have hcq := hq.cells
                  clear hq
                  go_simp
                  rfl
                try simp only [Act.put, List.setIfInBounds_toArray, List.set_cons_zero, List.set_cons_succ]
              iterate 2
                apply sch_want rfl (by first | rfl | decide | (simp [Region.wanted, yielded]; done)) (by repeat (first | with_reducible exact Within.refl _ | with_reducible assumption | with_reducible refine Within.alloc ?_ _ | with_reducible refine Within.drew ?_ | with_reducible refine Within.drewN ?_ _ | with_reducible refine Within.setCell ?_ (by first | (simp; done) | (simp; omega)) _ | with_reducible refine Within.trans ?_ (by assumption)))
                · intro wq hq
                  have hcq := hq.cells
                  clear hq
                  go_simp
                  rfl
                try simp only [Act.put, List.setIfInBounds_toArray, List.set_cons_zero, List.set_cons_succ]
              iterate 2
                apply sch_firm rfl rfl (by repeat (first | with_reducible exact Within.refl _ | with_reducible assumption | with_reducible refine Within.alloc ?_ _ | with_reducible refine Within.drew ?_ | with_reducible refine Within.drewN ?_ _ | with_reducible refine Within.setCell ?_ (by first | (simp; done) | (simp; omega)) _ | with_reducible refine Within.trans ?_ (by assumption)))
                · intro wq hq
                  have hcq := hq.cells
                  clear hq
                  go_simp
                  rfl
                try simp only [Act.put, List.setIfInBounds_toArray, List.set_cons_zero, List.set_cons_succ]
              iterate 7
                apply sch_want rfl (by first | rfl | decide | (simp [Region.wanted, yielded]; done)) (by repeat (first | with_reducible exact Within.refl _ | with_reducible assumption | with_reducible refine Within.alloc ?_ _ | with_reducible refine Within.drew ?_ | with_reducible refine Within.drewN ?_ _ | with_reducible refine Within.setCell ?_ (by first | (simp; done) | (simp; omega)) _ | with_reducible refine Within.trans ?_ (by assumption)))
                · intro wq hq
                  have hcq := hq.cells
                  clear hq
                  go_simp
                  rfl
                try simp only [Act.put, List.setIfInBounds_toArray, List.set_cons_zero, List.set_cons_succ]
              refine sch_one_want rfl (by first | rfl | decide | (simp [Region.wanted, yielded]; done)) (fun K hK => ?_)
              go_simp
              refine (NB1.out _ (by exact hls.of (by repeat (first | with_reducible exact Within.refl _ | with_reducible assumption | with_reducible refine Within.alloc ?_ _ | with_reducible refine Within.drew ?_ | with_reducible refine Within.drewN ?_ _ | with_reducible refine Within.setCell ?_ (by first | (simp; done) | (simp; omega)) _ | with_reducible refine Within.trans ?_ (by assumption))))).mono ?_; rintro e4 w4 ⟨rfl, h4⟩
              refine hK _ _ (fun _ => (by repeat (first | with_reducible exact Within.refl _ | with_reducible assumption | with_reducible refine Within.alloc ?_ _ | with_reducible refine Within.drew ?_ | with_reducible refine Within.drewN ?_ _ | with_reducible refine Within.setCell ?_ (by first | (simp; done) | (simp; omega)) _ | with_reducible refine Within.trans ?_ (by assumption)))) ?_
              clear hK K
              try simp only [Act.put, List.setIfInBounds_toArray, List.set_cons_zero, List.set_cons_succ]
              iterate 2
                apply sch_want rfl (by first | rfl | decide | (simp [Region.wanted, yielded]; done)) (by repeat (first | with_reducible exact Within.refl _ | with_reducible assumption | with_reducible refine Within.alloc ?_ _ | with_reducible refine Within.drew ?_ | with_reducible refine Within.drewN ?_ _ | with_reducible refine Within.setCell ?_ (by first | (simp; done) | (simp; omega)) _ | with_reducible refine Within.trans ?_ (by assumption)))
                · intro wq hq
                  have hcq := hq.cells
                  clear hq
                  go_simp
                  rfl
                try simp only [Act.put, List.setIfInBounds_toArray, List.set_cons_zero, List.set_cons_succ]
              iterate 2
                apply sch_firm rfl rfl (by repeat (first | with_reducible exact Within.refl _ | with_reducible assumption | with_reducible refine Within.alloc ?_ _ | with_reducible refine Within.drew ?_ | with_reducible refine Within.drewN ?_ _ | with_reducible refine Within.setCell ?_ (by first | (simp; done) | (simp; omega)) _ | with_reducible refine Within.trans ?_ (by assumption)))
                · intro wq hq
                  have hcq := hq.cells
                  clear hq
                  go_simp
                  rfl
                try simp only [Act.put, List.setIfInBounds_toArray, List.set_cons_zero, List.set_cons_succ]
              iterate 2
                apply sch_want rfl (by first | rfl | decide | (simp [Region.wanted, yielded]; done)) (by repeat (first | with_reducible exact Within.refl _ | with_reducible assumption | with_reducible refine Within.alloc ?_ _ | with_reducible refine Within.drew ?_ | with_reducible refine Within.drewN ?_ _ | with_reducible refine Within.setCell ?_ (by first | (simp; done) | (simp; omega)) _ | with_reducible refine Within.trans ?_ (by assumption)))
                · intro wq hq
                  have hcq := hq.cells
                  clear hq
                  go_simp
                  rfl
                try simp only [Act.put, List.setIfInBounds_toArray, List.set_cons_zero, List.set_cons_succ]
              iterate 2
                apply sch_firm rfl rfl (by repeat (first | with_reducible exact Within.refl _ | with_reducible assumption | with_reducible refine Within.alloc ?_ _ | with_reducible refine Within.drew ?_ | with_reducible refine Within.drewN ?_ _ | with_reducible refine Within.setCell ?_ (by first | (simp; done) | (simp; omega)) _ | with_reducible refine Within.trans ?_ (by assumption)))
                · intro wq hq
                  have hcq := hq.cells
                  clear hq
                  go_simp
                  rfl
                try simp only [Act.put, List.setIfInBounds_toArray, List.set_cons_zero, List.set_cons_succ]
              iterate 6
                apply sch_want rfl (by first | rfl | decide | (simp [Region.wanted, yielded]; done)) (by repeat (first | with_reducible exact Within.refl _ | with_reducible assumption | with_reducible refine Within.alloc ?_ _ | with_reducible refine Within.drew ?_ | with_reducible refine Within.drewN ?_ _ | with_reducible refine Within.setCell ?_ (by first | (simp; done) | (simp; omega)) _ | with_reducible refine Within.trans ?_ (by assumption)))
                · intro wq hq
                  have hcq := hq.cells
                  clear hq
                  go_simp
                  rfl
                try simp only [Act.put, List.setIfInBounds_toArray, List.set_cons_zero, List.set_cons_succ]
              refine sch_one rfl rfl (fun K hK => ?_)
              go_simp
              refine hK _ _ (fun h => absurd h (by decide)) ?_
              clear hK K
              try simp only [Act.put, List.setIfInBounds_toArray, List.set_cons_zero, List.set_cons_succ]
              refine sch_nil ?_
              go_wp2
              go_ret2
              exact NextPost.why HNE.out HW.out (by decide) (by repeat (first | with_reducible exact Within.refl _ | with_reducible assumption | with_reducible refine Within.alloc ?_ _ | with_reducible refine Within.drew ?_ | with_reducible refine Within.drewN ?_ _ | with_reducible refine Within.setCell ?_ (by first | (simp; done) | (simp; omega)) _ | with_reducible refine Within.trans ?_ (by assumption)))
            · have HF : Hid (¬ (left.getD 0 0 < 1 ∨ 3 < left.getD 0 0 ∨ at4 left 1 ≠ rs.length ∨ 1048576 < at4 left 5 ∨ 1048576 ≤ rs.length)) := Lib.hid (by rw [HX.out, HQ.out, HSZ.out, HN.out]; omega)
              have u1 : decide ((x : Int) < 1) = false := decide_eq_false (by omega)
              have u2 : decide ((x : Int) > 3) = false := decide_eq_false (by omega)
              have u3 : ((q : Int) != (n : Int)) = false := by rw [bne_eq_false_iff_eq]; omega
              have u4 : decide ((sz : Int) > 1048576) = false := decide_eq_false (by omega)
              have u5 : decide ((n : Int) ≥ 1048576) = false := decide_eq_false (by omega)
              go_wp2_with fail
              refine wp_region_schG (fun W => W.cell? ⟨rb, 0, none⟩ = some (.slice (some ad) (a + (m + 13)) (a + C)) ∧ W.cell? ⟨rb, 1, none⟩ = some (.int .i64 (a : Int)) ∧ W.cell? ⟨rb, 2, none⟩ = some (.int .u32 (k : Int)) ∧ W.cell? ⟨rb, 3, none⟩ = some (.slice Al n cl) ∧ rb < W.heap.size ∧ SlAt W (some la) (u8v left) ∧ Within w W) 29 (.firm 0 (.firm 1 (.firm 2 (.firm 3 (.firm 4 (.firm 5 (.firm 6 (.firm 7 (.firm 8 (.firm 11 (.firm 12 (.firm 13 (.firm 14 (.firm 15 (.one 9 (.firm 10 (.firm 16 (.firm 17 (.firm 18 (.firm 19 (.firm 20 (.firm 21 (.firm 22 (.firm 23 (.firm 24 (.firm 25 (.firm 26 (.firm 27 (.firm 28 (.one 29 .nil)))))))))))))))))))))))))))))) (by kernel_rfl) (by kernel_rfl) ⟨p0, p1, p2, p3, hrb, HLS.out.of HWN.out, HWN.out⟩ ?_
              rintro w0 ⟨p0, p1, p2, p3, hrb, hls, hwr⟩
              try simp only [Act.put, List.setIfInBounds_toArray, List.set_cons_zero, List.set_cons_succ]
              iterate 3
                apply sch_firm rfl rfl (by repeat (first | with_reducible exact Within.refl _ | with_reducible assumption | with_reducible refine Within.alloc ?_ _ | with_reducible refine Within.drew ?_ | with_reducible refine Within.drewN ?_ _ | with_reducible refine Within.setCell ?_ (by first | (simp; done) | (simp; omega)) _ | with_reducible refine Within.trans ?_ (by assumption)))
                · intro wq hq
                  have hcq := hq.cells
                  clear hq
                  go_simp
                  rfl
                try simp only [Act.put, List.setIfInBounds_toArray, List.set_cons_zero, List.set_cons_succ]
              iterate 2
                apply sch_want rfl (by first | rfl | decide | (simp [Region.wanted, yielded]; done)) (by repeat (first | with_reducible exact Within.refl _ | with_reducible assumption | with_reducible refine Within.alloc ?_ _ | with_reducible refine Within.drew ?_ | with_reducible refine Within.drewN ?_ _ | with_reducible refine Within.setCell ?_ (by first | (simp; done) | (simp; omega)) _ | with_reducible refine Within.trans ?_ (by assumption)))
                · intro wq hq
                  have hcq := hq.cells
                  clear hq
                  go_simp
                  rfl
                try simp only [Act.put, List.setIfInBounds_toArray, List.set_cons_zero, List.set_cons_succ]
              iterate 2
                apply sch_firm rfl rfl (by repeat (first | with_reducible exact Within.refl _ | with_reducible assumption | with_reducible refine Within.alloc ?_ _ | with_reducible refine Within.drew ?_ | with_reducible refine Within.drewN ?_ _ | with_reducible refine Within.setCell ?_ (by first | (simp; done) | (simp; omega)) _ | with_reducible refine Within.trans ?_ (by assumption)))
                · intro wq hq
                  have hcq := hq.cells
                  clear hq
                  go_simp
                  rfl
                try simp only [Act.put, List.setIfInBounds_toArray, List.set_cons_zero, List.set_cons_succ]
              iterate 7
                apply sch_want rfl (by first | rfl | decide | (simp [Region.wanted, yielded]; done)) (by repeat (first | with_reducible exact Within.refl _ | with_reducible assumption | with_reducible refine Within.alloc ?_ _ | with_reducible refine Within.drew ?_ | with_reducible refine Within.drewN ?_ _ | with_reducible refine Within.setCell ?_ (by first | (simp; done) | (simp; omega)) _ | with_reducible refine Within.trans ?_ (by assumption)))
                · intro wq hq
                  have hcq := hq.cells
                  clear hq
                  go_simp
                  rfl
                try simp only [Act.put, List.setIfInBounds_toArray, List.set_cons_zero, List.set_cons_succ]
              refine sch_one_want rfl (by first | rfl | decide | (simp [Region.wanted, yielded]; done)) (fun K hK => ?_)
              go_simp
              refine (NB1.out _ (by exact hls.of (by repeat (first | with_reducible exact Within.refl _ | with_reducible assumption | with_reducible refine Within.alloc ?_ _ | with_reducible refine Within.drew ?_ | with_reducible refine Within.drewN ?_ _ | with_reducible refine Within.setCell ?_ (by first | (simp; done) | (simp; omega)) _ | with_reducible refine Within.trans ?_ (by assumption))))).mono ?_; rintro e4 w4 ⟨rfl, h4⟩
              refine hK _ _ (fun _ => (by repeat (first | with_reducible exact Within.refl _ | with_reducible assumption | with_reducible refine Within.alloc ?_ _ | with_reducible refine Within.drew ?_ | with_reducible refine Within.drewN ?_ _ | with_reducible refine Within.setCell ?_ (by first | (simp; done) | (simp; omega)) _ | with_reducible refine Within.trans ?_ (by assumption)))) ?_
              clear hK K
              try simp only [Act.put, List.setIfInBounds_toArray, List.set_cons_zero, List.set_cons_succ]
              iterate 2
                apply sch_want rfl (by first | rfl | decide | (simp [Region.wanted, yielded]; done)) (by repeat (first | with_reducible exact Within.refl _ | with_reducible assumption | with_reducible refine Within.alloc ?_ _ | with_reducible refine Within.drew ?_ | with_reducible refine Within.drewN ?_ _ | with_reducible refine Within.setCell ?_ (by first | (simp; done) | (simp; omega)) _ | with_reducible refine Within.trans ?_ (by assumption)))
                · intro wq hq
                  have hcq := hq.cells
                  clear hq
                  go_simp
                  rfl
                try simp only [Act.put, List.setIfInBounds_toArray, List.set_cons_zero, List.set_cons_succ]
              iterate 2
                apply sch_firm rfl rfl (by repeat (first | with_reducible exact Within.refl _ | with_reducible assumption | with_reducible refine Within.alloc ?_ _ | with_reducible refine Within.drew ?_ | with_reducible refine Within.drewN ?_ _ | with_reducible refine Within.setCell ?_ (by first | (simp; done) | (simp; omega)) _ | with_reducible refine Within.trans ?_ (by assumption)))
                · intro wq hq
                  have hcq := hq.cells
                  clear hq
                  go_simp
                  rfl
                try simp only [Act.put, List.setIfInBounds_toArray, List.set_cons_zero, List.set_cons_succ]
              iterate 2
                apply sch_want rfl (by first | rfl | decide | (simp [Region.wanted, yielded]; done)) (by repeat (first | with_reducible exact Within.refl _ | with_reducible assumption | with_reducible refine Within.alloc ?_ _ | with_reducible refine Within.drew ?_ | with_reducible refine Within.drewN ?_ _ | with_reducible refine Within.setCell ?_ (by first | (simp; done) | (simp; omega)) _ | with_reducible refine Within.trans ?_ (by assumption)))
                · intro wq hq
                  have hcq := hq.cells
                  clear hq
                  go_simp
                  rfl
                try simp only [Act.put, List.setIfInBounds_toArray, List.set_cons_zero, List.set_cons_succ]
              iterate 2
                apply sch_firm rfl rfl (by repeat (first | with_reducible exact Within.refl _ | with_reducible assumption | with_reducible refine Within.alloc ?_ _ | with_reducible refine Within.drew ?_ | with_reducible refine Within.drewN ?_ _ | with_reducible refine Within.setCell ?_ (by first | (simp; done) | (simp; omega)) _ | with_reducible refine Within.trans ?_ (by assumption)))
                · intro wq hq
                  have hcq := hq.cells
                  clear hq
                  go_simp
                  rfl
                try simp only [Act.put, List.setIfInBounds_toArray, List.set_cons_zero, List.set_cons_succ]
              iterate 6
                apply sch_want rfl (by first | rfl | decide | (simp [Region.wanted, yielded]; done)) (by repeat (first | with_reducible exact Within.refl _ | with_reducible assumption | with_reducible refine Within.alloc ?_ _ | with_reducible refine Within.drew ?_ | with_reducible refine Within.drewN ?_ _ | with_reducible refine Within.setCell ?_ (by first | (simp; done) | (simp; omega)) _ | with_reducible refine Within.trans ?_ (by assumption)))
                · intro wq hq
                  have hcq := hq.cells
                  clear hq
                  go_simp
                  rfl
                try simp only [Act.put, List.setIfInBounds_toArray, List.set_cons_zero, List.set_cons_succ]
              refine sch_one rfl rfl (fun K hK => ?_)
              go_simp
              refine hK _ _ (fun h => absurd h (by decide)) ?_
              clear hK K
              try simp only [Act.put, List.setIfInBounds_toArray, List.set_cons_zero, List.set_cons_succ]
              refine sch_nil ?_
              have hxx : Within w0 w4 := (by repeat (first | with_reducible exact Within.refl _ | with_reducible assumption | with_reducible refine Within.alloc ?_ _ | with_reducible refine Within.drew ?_ | with_reducible refine Within.drewN ?_ _ | with_reducible refine Within.setCell ?_ (by first | (simp; done) | (simp; omega)) _ | with_reducible refine Within.trans ?_ (by assumption)))
              have p0 := (hxx.cells _ _ hrb).trans p0
              have p1 := (hxx.cells _ _ hrb).trans p1
              have p2 := (hxx.cells _ _ hrb).trans p2
              have p3 := (hxx.cells _ _ hrb).trans p3
              have hrb := Nat.lt_of_lt_of_le hrb hxx.size
              have HWN : Hid (Within w w4) := Lib.hid (hwr.trans hxx)
              clear hxx hwr
              clear h4 hls
              obtain ⟨E, hE⟩ : ∃ E, 13 + sz = E := ⟨_, rfl⟩
              have HEV : Hid (endV left = E) := Lib.hid (by unfold endV; rw [HSZ.out]; exact hE)
              have csz : IntKind.i64.wrap (sz : Int) = (sz : Int) := by rw [IntKind.wrap_i64]; omega
              have cE : (13 : Int) + (sz : Int) = (E : Int) := by omega
              have hEl : E ≤ 1048589 := by omega
              have hE13 : 13 ≤ E := by omega
              have HEE := Lib.hid hE; clear hE
              by_cases hsh : m + 13 < E + 4
              · have v0 : decide ((m : Int) + 13 < (E : Int) + 4) = true := decide_eq_true (by omega)
                have HW := Lib.hid (why_short (b := left) (n := rs.length) (k := k) H13.out HSE.out HF.out (by rw [HLR.out, HEV.out]; exact hsh))
                have hwr := HWN.out
                go_wp2
                go_ret2
                exact NextPost.why HNE.out HW.out (by decide) (by repeat (first | with_reducible exact Within.refl _ | with_reducible assumption | with_reducible refine Within.alloc ?_ _ | with_reducible refine Within.drew ?_ | with_reducible refine Within.drewN ?_ _ | with_reducible refine Within.setCell ?_ (by first | (simp; done) | (simp; omega)) _ | with_reducible refine Within.trans ?_ (by assumption)))
              · have v0 : decide ((m : Int) + 13 < (E : Int) + 4) = false := decide_eq_false (by omega)
                have HSH : Hid (¬ left.length < endV left + 4) := Lib.hid (by rw [HLR.out, HEV.out]; exact hsh)
                obtain ⟨nx, hnx⟩ : ∃ s, linkV k (left.take E) = s := ⟨_, rfl⟩
                have hnxl : nx < 4294967296 := by rw [← hnx]; exact linkV_lt (HLB.out.take E)
                have SBE := Lib.hid (fun W => SB.out W E (by omega) (by omega))
                rw [hnx] at SBE
                have HNX := Lib.hid hnx; clear hnx
                have t1 : (0 : Int) ≤ (E : Int) := by omega
                have t2 : (E : Int) ≤ (C : Int) := by omega
                have t3 : E ≤ C := by omega
                go_wp2_with fail
                refine wp_region_schG (fun W => W.cell? ⟨rb, 0, none⟩ = some (.slice (some ad) (a + (m + 13)) (a + C)) ∧ W.cell? ⟨rb, 1, none⟩ = some (.int .i64 (a : Int)) ∧ W.cell? ⟨rb, 2, none⟩ = some (.int .u32 (k : Int)) ∧ W.cell? ⟨rb, 3, none⟩ = some (.slice Al n cl) ∧ rb < W.heap.size ∧ SlAt W (some la) (u8v left) ∧ Within w W) 8 (.firm 0 (.firm 1 (.firm 2 (.firm 3 (.firm 4 (.firm 5 (.firm 6 (.one 7 (.one 8 .nil))))))))) (by kernel_rfl) (by kernel_rfl) ⟨p0, p1, p2, p3, hrb, HLS.out.of HWN.out, HWN.out⟩ ?_
                rintro w0 ⟨p0, p1, p2, p3, hrb, hls, hwr⟩
                try simp only [Act.put, List.setIfInBounds_toArray, List.set_cons_zero, List.set_cons_succ]
                iterate 7
                  apply sch_firm rfl rfl (by repeat (first | with_reducible exact Within.refl _ | with_reducible assumption | with_reducible refine Within.alloc ?_ _ | with_reducible refine Within.drew ?_ | with_reducible refine Within.drewN ?_ _ | with_reducible refine Within.setCell ?_ (by first | (simp; done) | (simp; omega)) _ | with_reducible refine Within.trans ?_ (by assumption)))
                  · intro wq hq
                    have hcq := hq.cells
                    clear hq
                    go_simp
                    rfl
                  try simp only [Act.put, List.setIfInBounds_toArray, List.set_cons_zero, List.set_cons_succ]
                refine sch_one rfl rfl (fun K hK => ?_)
                go_simp
                refine (SBE.out _ (by exact hls.of (by repeat (first | with_reducible exact Within.refl _ | with_reducible assumption | with_reducible refine Within.alloc ?_ _ | with_reducible refine Within.drew ?_ | with_reducible refine Within.drewN ?_ _ | with_reducible refine Within.setCell ?_ (by first | (simp; done) | (simp; omega)) _ | with_reducible refine Within.trans ?_ (by assumption))))).mono ?_; rintro e5 w5 ⟨rfl, h5⟩
                refine hK _ _ (fun _ => (by repeat (first | with_reducible exact Within.refl _ | with_reducible assumption | with_reducible refine Within.alloc ?_ _ | with_reducible refine Within.drew ?_ | with_reducible refine Within.drewN ?_ _ | with_reducible refine Within.setCell ?_ (by first | (simp; done) | (simp; omega)) _ | with_reducible refine Within.trans ?_ (by assumption)))) ?_
                clear hK K
                try simp only [Act.put, List.setIfInBounds_toArray, List.set_cons_zero, List.set_cons_succ]
                refine sch_one rfl rfl (fun K hK => ?_)
                go_simp
                refine hK _ _ (fun h => absurd h (by decide)) ?_
                clear hK K
                try simp only [Act.put, List.setIfInBounds_toArray, List.set_cons_zero, List.set_cons_succ]
                refine sch_nil ?_
                have hxx : Within w0 w5 := (by repeat (first | with_reducible exact Within.refl _ | with_reducible assumption | with_reducible refine Within.alloc ?_ _ | with_reducible refine Within.drew ?_ | with_reducible refine Within.drewN ?_ _ | with_reducible refine Within.setCell ?_ (by first | (simp; done) | (simp; omega)) _ | with_reducible refine Within.trans ?_ (by assumption)))
                have p0 := (hxx.cells _ _ hrb).trans p0
                have p1 := (hxx.cells _ _ hrb).trans p1
                have p2 := (hxx.cells _ _ hrb).trans p2
                have p3 := (hxx.cells _ _ hrb).trans p3
                have hrb := Nat.lt_of_lt_of_le hrb hxx.size
                have HWN : Hid (Within w w5) := Lib.hid (hwr.trans hxx)
                clear hxx hwr
                clear h5 hls
                obtain ⟨s2, hs2⟩ : ∃ s, at4 left E = s := ⟨_, rfl⟩
                have HS2 := Lib.hid hs2; clear hs2
                have y1 : ¬ C = E := by omega
                have y2 : (E : Int) ≤ (m : Int) + 13 := by omega
                have y3 : (m : Int) + 13 ≤ (C : Int) := by omega
                have y4 : E ≤ m + 13 := by omega
                by_cases hlk : s2 = nx
                · have v1 : ((s2 : Int) != (nx : Int)) = false := by rw [bne_eq_false_iff_eq]; omega
                  have HLE : Hid (¬ at4 left (endV left) ≠ linkV k (left.take (endV left))) := Lib.hid (by rw [HEV.out, HS2.out, HNX.out]; exact fun h => h hlk)
                  clear hlk
                  go_wp2_with fail
                  refine (NB.out _ E _ _ (by omega) (by omega) (by omega) (HLS.out.of HWN.out)).mono ?_; rintro e6 w6 ⟨hee, h6⟩
                  rw [HS2.out] at hee
                  subst hee
                  have hwr := HWN.out
                  have hxx : Within w5 w6 := (by repeat (first | with_reducible exact Within.refl _ | with_reducible assumption | with_reducible refine Within.alloc ?_ _ | with_reducible refine Within.drew ?_ | with_reducible refine Within.drewN ?_ _ | with_reducible refine Within.setCell ?_ (by first | (simp; done) | (simp; omega)) _ | with_reducible refine Within.trans ?_ (by assumption)))
                  have p0 := (hxx.cells _ _ hrb).trans p0
                  have p1 := (hxx.cells _ _ hrb).trans p1
                  have p2 := (hxx.cells _ _ hrb).trans p2
                  have p3 := (hxx.cells _ _ hrb).trans p3
                  have hrb := Nat.lt_of_lt_of_le hrb hxx.size
                  have HWN : Hid (Within w w6) := Lib.hid (hwr.trans hxx)
                  clear hxx hwr
                  clear h6
                  obtain ⟨dd, hdd⟩ : ∃ dd, (left.drop 13).take sz = dd := ⟨_, rfl⟩
                  have hdl : dd.length = sz := by rw [← hdd, List.length_take, List.length_drop, HLR.out]; omega
                  have hdb : Bytes dd := by rw [← hdd]; exact (HLB.out.drop 13).take sz
                  have hds : SlAt w6 (some (la.add 13)) (u8v dd) := by have := (left_at (HLS.out.of HWN.out) 13).take sz; rw [← hdd]; unfold u8v at this ⊢; rwa [← List.map_take] at this
                  rw [add_plain' la (by decide)] at hds
                  have CLN := clone_any (some ⟨la.block, la.off + 13, none⟩) (C - 13) dd (by omega) w6 hds
                  rw [hdl] at CLN
                  have HCLN := Lib.hid CLN; have HDB := Lib.hid hdb; have HDL := Lib.hid hdl; have HDD := Lib.hid hdd; clear CLN hdb hds hdl hdd
                  have y5 : (13 : Int) ≤ (E : Int) := by omega
                  have y6 : E - 13 = sz := by omega
                  have y7 : ¬ C = 13 := by omega
                  have y8 : (E : Int) ≤ (C : Int) := by omega
                  have y9 : 13 ≤ E := by omega
                  have y10 : E ≤ C := by omega
                  go_wp2_with fail
                  refine HCLN.out.mono ?_; rintro e7 w7 ⟨v7, rfl, hO7, h7⟩
                  obtain ⟨A7, c7, rfl, hc7, hs7, hD7⟩ := hO7.form
                  have JC := jcheck_any (x : Int) A7 c7 dd HDB.out hc7 (by rw [HDL.out]; omega) (w7.alloc (.cells #[.int .i64 (x : Int), .slice A7 dd.length c7] 50)) (HT.out.of ((HWN.out.trans h7).alloc _)) (hs7.of ((Within.refl w7).alloc _))
                  rw [HDL.out] at JC hO7 hc7 ⊢
                  obtain ⟨ck, hck⟩ : ∃ ck, checkR pf (x : Int) dd = ck := ⟨_, rfl⟩
                  rw [hck] at JC
                  have HJC := Lib.hid JC; have HO7 := Lib.hid hO7; have HCK := Lib.hid hck; have HD7 := Lib.hid hD7; clear JC hO7 hck hs7 hD7
                  go_wp2_with fail
                  refine HJC.out.mono ?_; rintro e8 w8 ⟨rfl, h8⟩
                  have hX78 : Within w7 w8 := Within.trans ((Within.refl w7).alloc _) h8
                  have z0 : w8.cell? ⟨w7.heap.size, 0, none⟩ = some (.int .i64 (x : Int)) := (h8.cells _ _ (by simp)).trans (by simp)
                  have z1 : w8.cell? ⟨w7.heap.size, 1, none⟩ = some (.slice A7 sz c7) := (h8.cells _ _ (by simp)).trans (by simp)
                  have hzb : w7.heap.size < w8.heap.size := World.block_lt_of_cell? _ _ z0
                  by_cases hc0 : ck = 0
                  · subst hc0
                    have HW0 : Hid (whyV pf left rs.length k = 0) := Lib.hid (by rw [why_rec H13.out HSE.out HF.out HSH.out HLE.out, HX.out, HSZ.out, HDD.out, HCK.out, if_neg (by decide)])
                    have HPF8 : Hid (∀ o, w8.frozen? ⟨rb, o, none⟩ = false) := Lib.hid (fun o => ((HWN.out.trans (h7.trans hX78)).frozens rb o HRB.out).trans (HPF.out o))
                    have hlt : ∀ j, (Value.slice Al n cl).ownBlock = some j → B ≤ j ∧ j < w.heap.size := HRL.out.own_lt
                    have hX8 := HWN.out.trans (h7.trans hX78)
                    have nT1 : ¬ ((Value.slice Al n cl).ownBlock = some rb) := fun h => by have := (hlt rb h).1; omega
                    have nT2 : ¬ ((Value.slice Al n cl).ownBlock = some w7.heap.size) := fun h => by have := (hlt _ h).2; have := HWN.out.size; have := h7.size; omega
                    have h6B : B ≤ w6.heap.size := Nat.le_trans hB HWN.out.size
                    have HLT := Lib.hid hlt
                    have HO8 := Lib.hid ((HO7.out.less h6B).of hX78)
                    have HRL8 := Lib.hid (HRL.out.of hX8)
                    have HX8 := Lib.hid hX8
                    have hne7 : (Value.slice A7 sz c7).ownBlock = none ∨ (Value.slice A7 sz c7).ownBlock ≠ (Value.slice Al n cl).ownBlock := by
                      cases ho : (Value.slice A7 sz c7).ownBlock with
                      | none => exact .inl rfl
                      | some j => exact .inr (fun e => by have h1 := (HO7.out.lt j ho).1; have h2 := (hlt j e.symm).2; have := HWN.out.size; omega)
                    have hwr := HWN.out
                    have HNE7 := Lib.hid hne7; clear hne7 hlt hX8
                    have hxx : Within w6 w8 := (by repeat (first | with_reducible exact Within.refl _ | with_reducible assumption | with_reducible refine Within.alloc ?_ _ | with_reducible refine Within.drew ?_ | with_reducible refine Within.drewN ?_ _ | with_reducible refine Within.setCell ?_ (by first | (simp; done) | (simp; omega)) _ | with_reducible refine Within.trans ?_ (by assumption)))
                    have p0 := (hxx.cells _ _ hrb).trans p0
                    have p1 := (hxx.cells _ _ hrb).trans p1
                    have p2 := (hxx.cells _ _ hrb).trans p2
                    have p3 := (hxx.cells _ _ hrb).trans p3
                    have hrb := Nat.lt_of_lt_of_le hrb hxx.size
                    have HWN : Hid (Within w w8) := Lib.hid (hwr.trans hxx)
                    clear hxx hwr
                    clear h8 h7 hX78
                    have nT1h := Lib.hid nT1; have nT2h := Lib.hid nT2; clear nT1 nT2
                    go_wp2_with fail
                    refine wp_region_schT (fun j => (Value.slice Al n cl).ownBlock = some j) (fun W => W.cell? ⟨rb, 0, none⟩ = some (.slice (some ad) (a + (m + 13)) (a + C)) ∧ W.cell? ⟨rb, 1, none⟩ = some (.int .i64 (a : Int)) ∧ W.cell? ⟨rb, 2, none⟩ = some (.int .u32 (k : Int)) ∧ W.cell? ⟨rb, 3, none⟩ = some (.slice Al n cl) ∧ rb < W.heap.size ∧ W.cell? ⟨w7.heap.size, 0, none⟩ = some (.int .i64 (x : Int)) ∧ W.cell? ⟨w7.heap.size, 1, none⟩ = some (.slice A7 sz c7) ∧ w7.heap.size < W.heap.size ∧ W = w8) 10 (.firm 0 (.firm 1 (.firm 2 (.firm 3 (.firm 4 (.firm 5 (.one 6 (.one 7 (.firm 8 (.firm 9 (.one 10 .nil))))))))))) (by kernel_rfl) (by kernel_rfl) ⟨p0, p1, p2, p3, hrb, z0, z1, hzb, rfl⟩ ?_
                    rintro w0 ⟨p0, p1, p2, p3, hrb, z0, z1, hzb, rfl⟩
                    try simp only [Act.put, List.setIfInBounds_toArray, List.set_cons_zero, List.set_cons_succ]
                    iterate 6
                      apply sch_firm rfl rfl (by repeat (first | with_reducible exact ButS.refl _ _ | with_reducible assumption | with_reducible refine ButS.drew ?_ | with_reducible refine ButS.alloc ?_ _ | with_reducible refine ButS.within ?_ (by assumption)))
                      · intro wq hq
                        have q0 := (hq.cells rb 0 hrb nT1h.out).trans p0
                        have q1 := (hq.cells rb 1 hrb nT1h.out).trans p1
                        have q2 := (hq.cells rb 2 hrb nT1h.out).trans p2
                        have q3 := (hq.cells rb 3 hrb nT1h.out).trans p3
                        have q4 := (hq.cells _ 0 hzb nT2h.out).trans z0
                        have q5 := (hq.cells _ 1 hzb nT2h.out).trans z1
                        have q6 := Nat.lt_of_lt_of_le hrb hq.size
                        have q7 := Nat.lt_of_lt_of_le hzb hq.size
                        clear hq
                        go_simp
                        rfl
                      try simp only [Act.put, List.setIfInBounds_toArray, List.set_cons_zero, List.set_cons_succ]
                    refine sch_one rfl rfl (fun K hK => ?_)
                    go_simp
                    refine hK _ _ (fun _ => (by repeat (first | with_reducible exact ButS.refl _ _ | with_reducible assumption | with_reducible refine ButS.drew ?_ | with_reducible refine ButS.alloc ?_ _ | with_reducible refine ButS.within ?_ (by assumption)))) ?_
                    clear hK K
                    try simp only [Act.put, List.setIfInBounds_toArray, List.set_cons_zero, List.set_cons_succ]
                    refine sch_one rfl rfl (fun K hK => ?_)
                    obtain ⟨v9, w9, hrun9, hR9, hg9, hb9, ho9⟩ := run_app_rec w0.drew B (.slice Al n cl) (rs.map Rec.i) ((x : Int), dd) (.slice A7 sz c7) (HRL8.out.of ((Within.refl w0).drew)) (HO8.out.of ((Within.refl w0).drew)) HDB.out HNE7.out (by rw [List.length_map, HN.out]; omega) (by exact Nat.le_trans hB HX8.out.size)
                    obtain ⟨A9, c9, rfl, hx9, hy9, hz9, hu9⟩ := hR9.at
                    clear hx9 hy9 hz9 hu9
                    obtain ⟨n9, hn9⟩ : ∃ n9, (rs.map Rec.i ++ [((x : Int), dd)]).length = n9 := ⟨_, rfl⟩
                    rw [hn9] at hrun9 hR9
                    clear hn9
                    have hS9 : ButS (fun j => (Value.slice Al n cl).ownBlock = some j) w0 w9 := ((ButS.refl _ w0).drew).grown hg9 (fun j hj => .inl hj)
                    have hC9 : NxC w9 rb (.slice (some ad) (a + (m + 13)) (a + C)) a k (.slice Al n cl) := NxC.grown (w := w0.drew) ⟨p0, p1, p2, p3, HPF8.out⟩ hg9 nT1h.out
                    have RUN9 := Lib.hid hrun9; have HR9 := Lib.hid hR9; have HC9 := Lib.hid hC9; clear hrun9 hR9 hg9 hb9 ho9 hC9
                    refine op_append_run (.tmp 108) (.tmp 110) 31 rfl _ _ rfl rfl RUN9.out ?_
                    refine hK _ _ (fun _ => (by repeat (first | with_reducible exact ButS.refl _ _ | with_reducible assumption | with_reducible refine ButS.drew ?_ | with_reducible refine ButS.alloc ?_ _ | with_reducible refine ButS.within ?_ (by assumption)))) ?_
                    clear hK K
                    try simp only [Act.put, List.setIfInBounds_toArray, List.set_cons_zero, List.set_cons_succ]
                    iterate 2
                      apply sch_firm rfl rfl (by repeat (first | with_reducible exact ButS.refl _ _ | with_reducible assumption | with_reducible refine ButS.drew ?_ | with_reducible refine ButS.alloc ?_ _ | with_reducible refine ButS.within ?_ (by assumption)))
                      · intro wq hq
                        have q0 := (hq.cells rb 0 hrb nT1h.out).trans p0
                        have q1 := (hq.cells rb 1 hrb nT1h.out).trans p1
                        have q2 := (hq.cells rb 2 hrb nT1h.out).trans p2
                        have q3 := (hq.cells rb 3 hrb nT1h.out).trans p3
                        have q4 := (hq.cells _ 0 hzb nT2h.out).trans z0
                        have q5 := (hq.cells _ 1 hzb nT2h.out).trans z1
                        have q6 := Nat.lt_of_lt_of_le hrb hq.size
                        have q7 := Nat.lt_of_lt_of_le hzb hq.size
                        clear hq
                        go_simp
                        rfl
                      try simp only [Act.put, List.setIfInBounds_toArray, List.set_cons_zero, List.set_cons_succ]
                    refine sch_one rfl rfl (fun K hK => ?_)
                    obtain ⟨r0, r1, r2, r3, rff⟩ := HC9.out
                    have hrb9 := HC9.out.lt
                    go_simp
                    refine hK _ _ (fun h => absurd h (by decide)) ?_
                    clear hK K
                    try simp only [Act.put, List.setIfInBounds_toArray, List.set_cons_zero, List.set_cons_succ]
                    refine sch_nil ?_
                    go_wp2
                    go_ret2
                    have hN := ((HC9.out.list (.slice A9 n9 c9)).place (a + (E + 4))).link nx
                    have hK : But rb w9 (((w9.setCell ⟨rb, 3, none⟩ (.slice A9 n9 c9)).setCell ⟨rb, 1, none⟩ (.int .i64 ((a + (E + 4) : Nat) : Int))).setCell ⟨rb, 2, none⟩ (.int .u32 (nx : Int))) := (((But.refl rb w9).set (.inl rfl) _).set (.inl rfl) _).set (.inl rfl) _
                    have hR := HR9.out.but hK hrB
                    have hS : ButS (fun j => j = rb ∨ B ≤ j) w (((w9.setCell ⟨rb, 3, none⟩ (.slice A9 n9 c9)).setCell ⟨rb, 1, none⟩ (.int .i64 ((a + (E + 4) : Nat) : Int))).setCell ⟨rb, 2, none⟩ (.int .u32 (nx : Int))) := (((((ButS.in_ HX8.out).trans hS9 (fun j _ hj => .inr (HLT.out j hj).1)).set (.inl (.inl rfl)) _).set (.inl (.inl rfl)) _).set (.inl (.inl rfl)) _)
                    rw [show ((a + (E + 4) : Nat) : Int) = (a : Int) + ((E : Int) + 4) by omega] at hN hR hS
                    have hI : (rs ++ [recV left]).map Rec.i = rs.map Rec.i ++ [((x : Int), dd)] := by
                      rw [List.map_append]; congr 1; show [(((left.getD 0 0 : Nat) : Int), (left.drop 13).take (at4 left 5))] = _; rw [HX.out, HSZ.out, HDD.out]
                    exact NextPost.rec_ HW0.out (by rw [HEV.out, HNX.out]; exact hN) (by rw [hI]; exact hR) hS
                  · have hne0 : (ck != 0) = true := bne_iff_ne.2 hc0
                    have HW := Lib.hid (show whyV pf left rs.length k = 3 by rw [why_rec H13.out HSE.out HF.out HSH.out HLE.out, HX.out, HSZ.out, HDD.out, HCK.out, if_pos hc0])
                    have hwr := HWN.out
                    go_wp2
                    go_ret2
                    exact NextPost.why HNE.out HW.out (by decide) (by repeat (first | with_reducible exact Within.refl _ | with_reducible assumption | with_reducible refine Within.alloc ?_ _ | with_reducible refine Within.drew ?_ | with_reducible refine Within.drewN ?_ _ | with_reducible refine Within.setCell ?_ (by first | (simp; done) | (simp; omega)) _ | with_reducible refine Within.trans ?_ (by assumption)))
                · have v1 : ((s2 : Int) != (nx : Int)) = true := bne_iff_ne.2 (by omega)
                  have HW := Lib.hid (why_link (b := left) (n := rs.length) (k := k) H13.out HSE.out HF.out HSH.out (by rw [HEV.out, HS2.out, HNX.out]; exact hlk))
                  clear hlk
                  go_wp2_with fail
                  refine (NB.out _ E _ _ (by omega) (by omega) (by omega) (HLS.out.of HWN.out)).mono ?_; rintro e6 w6 ⟨hee, h6⟩
                  rw [HS2.out] at hee
                  subst hee
                  have hwr := HWN.out
                  go_wp2
                  go_ret2
                  exact NextPost.why HNE.out HW.out (by decide) (by repeat (first | with_reducible exact Within.refl _ | with_reducible assumption | with_reducible refine Within.alloc ?_ _ | with_reducible refine Within.drew ?_ | with_reducible refine Within.drewN ?_ _ | with_reducible refine Within.setCell ?_ (by first | (simp; done) | (simp; omega)) _ | with_reducible refine Within.trans ?_ (by assumption)))
        · have u1 : decide ((x : Int) < 1) = false := decide_eq_false (by omega)
          have u2 : decide ((x : Int) > 3) = false := decide_eq_false (by omega)
          have u3 : ((q : Int) != (n : Int)) = true := bne_iff_ne.2 (by omega)
          have HW := Lib.hid (why_form (b := left) (n := rs.length) (k := k) H13.out HSE.out (by rw [HX.out, HQ.out, HSZ.out, HN.out]; exact .inr (.inr (.inl x3))))
          go_wp2_with fail
          refine wp_region_schG (fun W => W.cell? ⟨rb, 0, none⟩ = some (.slice (some ad) (a + (m + 13)) (a + C)) ∧ W.cell? ⟨rb, 1, none⟩ = some (.int .i64 (a : Int)) ∧ W.cell? ⟨rb, 2, none⟩ = some (.int .u32 (k : Int)) ∧ W.cell? ⟨rb, 3, none⟩ = some (.slice Al n cl) ∧ rb < W.heap.size ∧ SlAt W (some la) (u8v left) ∧ Within w W) 29 (.firm 0 (.firm 1 (.firm 2 (.firm 3 (.firm 4 (.firm 5 (.firm 6 (.firm 7 (.firm 8 (.firm 11 (.firm 12 (.firm 13 (.firm 14 (.firm 15 (.one 9 (.firm 10 (.firm 16 (.firm 17 (.firm 18 (.firm 19 (.firm 20 (.firm 21 (.firm 22 (.firm 23 (.firm 24 (.firm 25 (.firm 26 (.firm 27 (.firm 28 (.one 29 .nil)))))))))))))))))))))))))))))) (by kernel_rfl) (by kernel_rfl) ⟨p0, p1, p2, p3, hrb, HLS.out.of HWN.out, HWN.out⟩ ?_
          rintro w0 ⟨p0, p1, p2, p3, hrb, hls, hwr⟩
          try simp only [Act.put, List.setIfInBounds_toArray, List.set_cons_zero, List.set_cons_succ]
          iterate 3
            apply sch_firm rfl rfl (by repeat (first | with_reducible exact Within.refl _ | with_reducible assumption | with_reducible refine Within.alloc ?_ _ | with_reducible refine Within.drew ?_ | with_reducible refine Within.drewN ?_ _ | with_reducible refine Within.setCell ?_ (by first | (simp; done) | (simp; omega)) _ | with_reducible refine Within.trans ?_ (by assumption)))
            · intro wq hq
              have hcq := hq.cells
              clear hq
              go_simp
              rfl
            try simp only [Act.put, List.setIfInBounds_toArray, List.set_cons_zero, List.set_cons_succ]
          iterate 2
            apply sch_want rfl (by first | rfl | decide | (simp [Region.wanted, yielded]; done)) (by repeat (first | with_reducible exact Within.refl _ | with_reducible assumption | with_reducible refine Within.alloc ?_ _ | with_reducible refine Within.drew ?_ | with_reducible refine Within.drewN ?_ _ | with_reducible refine Within.setCell ?_ (by first | (simp; done) | (simp; omega)) _ | with_reducible refine Within.trans ?_ (by assumption)))
            · intro wq hq
              have hcq := hq.cells
              clear hq
              go_simp
              rfl
            try simp only [Act.put, List.setIfInBounds_toArray, List.set_cons_zero, List.set_cons_succ]
          iterate 2
            apply sch_firm rfl rfl (by repeat (first | with_reducible exact Within.refl _ | with_reducible assumption | with_reducible refine Within.alloc ?_ _ | with_reducible refine Within.drew ?_ | with_reducible refine Within.drewN ?_ _ | with_reducible refine Within.setCell ?_ (by first | (simp; done) | (simp; omega)) _ | with_reducible refine Within.trans ?_ (by assumption)))
            · intro wq hq
              have hcq := hq.cells
              clear hq
              go_simp
              rfl
            try simp only [Act.put, List.setIfInBounds_toArray, List.set_cons_zero, List.set_cons_succ]
          iterate 7
            apply sch_want rfl (by first | rfl | decide | (simp [Region.wanted, yielded]; done)) (by repeat (first | with_reducible exact Within.refl _ | with_reducible assumption | with_reducible refine Within.alloc ?_ _ | with_reducible refine Within.drew ?_ | with_reducible refine Within.drewN ?_ _ | with_reducible refine Within.setCell ?_ (by first | (simp; done) | (simp; omega)) _ | with_reducible refine Within.trans ?_ (by assumption)))
            · intro wq hq
              have hcq := hq.cells
              clear hq
              go_simp
              rfl
            try simp only [Act.put, List.setIfInBounds_toArray, List.set_cons_zero, List.set_cons_succ]
          refine sch_one_want rfl (by first | rfl | decide | (simp [Region.wanted, yielded]; done)) (fun K hK => ?_)
          go_simp
          refine (NB1.out _ (by exact hls.of (by repeat (first | with_reducible exact Within.refl _ | with_reducible assumption | with_reducible refine Within.alloc ?_ _ | with_reducible refine Within.drew ?_ | with_reducible refine Within.drewN ?_ _ | with_reducible refine Within.setCell ?_ (by first | (simp; done) | (simp; omega)) _ | with_reducible refine Within.trans ?_ (by assumption))))).mono ?_; rintro e4 w4 ⟨rfl, h4⟩
          refine hK _ _ (fun _ => (by repeat (first | with_reducible exact Within.refl _ | with_reducible assumption | with_reducible refine Within.alloc ?_ _ | with_reducible refine Within.drew ?_ | with_reducible refine Within.drewN ?_ _ | with_reducible refine Within.setCell ?_ (by first | (simp; done) | (simp; omega)) _ | with_reducible refine Within.trans ?_ (by assumption)))) ?_
          clear hK K
          try simp only [Act.put, List.setIfInBounds_toArray, List.set_cons_zero, List.set_cons_succ]
          iterate 2
            apply sch_want rfl (by first | rfl | decide | (simp [Region.wanted, yielded]; done)) (by repeat (first | with_reducible exact Within.refl _ | with_reducible assumption | with_reducible refine Within.alloc ?_ _ | with_reducible refine Within.drew ?_ | with_reducible refine Within.drewN ?_ _ | with_reducible refine Within.setCell ?_ (by first | (simp; done) | (simp; omega)) _ | with_reducible refine Within.trans ?_ (by assumption)))
            · intro wq hq
              have hcq := hq.cells
              clear hq
              go_simp
              rfl
            try simp only [Act.put, List.setIfInBounds_toArray, List.set_cons_zero, List.set_cons_succ]
          iterate 2
            apply sch_firm rfl rfl (by repeat (first | with_reducible exact Within.refl _ | with_reducible assumption | with_reducible refine Within.alloc ?_ _ | with_reducible refine Within.drew ?_ | with_reducible refine Within.drewN ?_ _ | with_reducible refine Within.setCell ?_ (by first | (simp; done) | (simp; omega)) _ | with_reducible refine Within.trans ?_ (by assumption)))
            · intro wq hq
              have hcq := hq.cells
              clear hq
              go_simp
              rfl
            try simp only [Act.put, List.setIfInBounds_toArray, List.set_cons_zero, List.set_cons_succ]
          iterate 2
            refine sch_skip rfl (by first | rfl | decide | (simp [Region.wanted, yielded]; done)) (by repeat (first | with_reducible exact Within.refl _ | with_reducible assumption | with_reducible refine Within.alloc ?_ _ | with_reducible refine Within.drew ?_ | with_reducible refine Within.drewN ?_ _ | with_reducible refine Within.setCell ?_ (by first | (simp; done) | (simp; omega)) _ | with_reducible refine Within.trans ?_ (by assumption))) ?_
            try simp only [Act.put, List.setIfInBounds_toArray, List.set_cons_zero, List.set_cons_succ]
          iterate 2
            apply sch_firm rfl rfl (by repeat (first | with_reducible exact Within.refl _ | with_reducible assumption | with_reducible refine Within.alloc ?_ _ | with_reducible refine Within.drew ?_ | with_reducible refine Within.drewN ?_ _ | with_reducible refine Within.setCell ?_ (by first | (simp; done) | (simp; omega)) _ | with_reducible refine Within.trans ?_ (by assumption)))
            · intro wq hq
              have hcq := hq.cells
              clear hq
              go_simp
              rfl
            try simp only [Act.put, List.setIfInBounds_toArray, List.set_cons_zero, List.set_cons_succ]
          iterate 6
            refine sch_skip rfl (by first | rfl | decide | (simp [Region.wanted, yielded]; done)) (by repeat (first | with_reducible exact Within.refl _ | with_reducible assumption | with_reducible refine Within.alloc ?_ _ | with_reducible refine Within.drew ?_ | with_reducible refine Within.drewN ?_ _ | with_reducible refine Within.setCell ?_ (by first | (simp; done) | (simp; omega)) _ | with_reducible refine Within.trans ?_ (by assumption))) ?_
            try simp only [Act.put, List.setIfInBounds_toArray, List.set_cons_zero, List.set_cons_succ]
          refine sch_one rfl rfl (fun K hK => ?_)
          go_simp
          refine hK _ _ (fun h => absurd h (by decide)) ?_
          clear hK K
          try simp only [Act.put, List.setIfInBounds_toArray, List.set_cons_zero, List.set_cons_succ]
          refine sch_nil ?_
          go_wp2
          go_ret2
          exact NextPost.why HNE.out HW.out (by decide) (by repeat (first | with_reducible exact Within.refl _ | with_reducible assumption | with_reducible refine Within.alloc ?_ _ | with_reducible refine Within.drew ?_ | with_reducible refine Within.drewN ?_ _ | with_reducible refine Within.setCell ?_ (by first | (simp; done) | (simp; omega)) _ | with_reducible refine Within.trans ?_ (by assumption)))
  · have n1 : ((s1 : Int) != (l1 : Int)) = true := bne_iff_ne.2 (by omega)
    have HW := Lib.hid (why_sum (b := left) (n := rs.length) (k := k) H13.out (by rw [HS1.out, HL1.out]; exact hsum))
    clear hsum
    go_enter Tryd.func62, Tryd.ntmps62
    go_wp2_with fail
    refine wp_region_schG (fun W => W.cell? ⟨rb, 0, none⟩ = some (.slice (some ad) (a + (m + 13)) (a + C)) ∧ W.cell? ⟨rb, 1, none⟩ = some (.int .i64 (a : Int)) ∧ W.cell? ⟨rb, 2, none⟩ = some (.int .u32 (k : Int)) ∧ W.cell? ⟨rb, 3, none⟩ = some (.slice Al n cl) ∧ rb < W.heap.size ∧ Within w W) 9 (.firm 0 (.firm 1 (.firm 2 (.firm 3 (.firm 4 (.firm 5 (.firm 6 (.firm 7 (.firm 8 (.one 9 .nil)))))))))) (by kernel_rfl) (by kernel_rfl) ⟨p0, p1, p2, p3, hrb, Within.refl _⟩ ?_
    rintro w0 ⟨p0, p1, p2, p3, hrb, hw0⟩
    try simp only [Act.put, List.setIfInBounds_toArray, List.set_cons_zero, List.set_cons_succ]
    iterate 9
      apply sch_firm rfl rfl (by repeat (first | with_reducible exact Within.refl _ | with_reducible assumption | with_reducible refine Within.alloc ?_ _ | with_reducible refine Within.drew ?_ | with_reducible refine Within.drewN ?_ _ | with_reducible refine Within.setCell ?_ (by first | (simp; done) | (simp; omega)) _ | with_reducible refine Within.trans ?_ (by assumption)))
      · intro wq hq
        have hcq := hq.cells
        clear hq
        go_simp
        rfl
      try simp only [Act.put, List.setIfInBounds_toArray, List.set_cons_zero, List.set_cons_succ]
    refine sch_one rfl rfl (fun K hK => ?_)
    go_simp
    refine hK _ _ (fun h => absurd h (by decide)) ?_
    clear hK K
    try simp only [Act.put, List.setIfInBounds_toArray, List.set_cons_zero, List.set_cons_succ]
    refine sch_nil ?_
    rw [← hla]
    clear hla
    have HW0 := Lib.hid hw0.drew
    go_wp2_with fail
    refine wp_region_schG (fun W => W.cell? ⟨rb, 0, none⟩ = some (.slice (some ad) (a + (m + 13)) (a + C)) ∧ W.cell? ⟨rb, 1, none⟩ = some (.int .i64 (a : Int)) ∧ W.cell? ⟨rb, 2, none⟩ = some (.int .u32 (k : Int)) ∧ W.cell? ⟨rb, 3, none⟩ = some (.slice Al n cl) ∧ rb < W.heap.size ∧ SlAt W (some la) (u8v left) ∧ Within w W) 10 (.firm 0 (.firm 1 (.firm 3 (.firm 4 (.firm 5 (.firm 6 (.firm 7 (.firm 8 (.one 2 (.one 9 (.one 10 .nil))))))))))) (by kernel_rfl) (by kernel_rfl) ⟨p0, p1, p2, p3, hrb, HLS.out.of HW0.out, HW0.out⟩ ?_
    rintro w0 ⟨p0, p1, p2, p3, hrb, hls, hwr⟩
    try simp only [Act.put, List.setIfInBounds_toArray, List.set_cons_zero, List.set_cons_succ]
    iterate 8
      apply sch_firm rfl rfl (by repeat (first | with_reducible exact Within.refl _ | with_reducible assumption | with_reducible refine Within.alloc ?_ _ | with_reducible refine Within.drew ?_ | with_reducible refine Within.drewN ?_ _ | with_reducible refine Within.setCell ?_ (by first | (simp; done) | (simp; omega)) _ | with_reducible refine Within.trans ?_ (by assumption)))
      · intro wq hq
        have hcq := hq.cells
        clear hq
        go_simp
        rfl
      try simp only [Act.put, List.setIfInBounds_toArray, List.set_cons_zero, List.set_cons_succ]
    refine sch_one rfl rfl (fun K hK => ?_)
    go_simp
    refine (NB9.out _ (by exact hls.of (by repeat (first | with_reducible exact Within.refl _ | with_reducible assumption | with_reducible refine Within.alloc ?_ _ | with_reducible refine Within.drew ?_ | with_reducible refine Within.drewN ?_ _ | with_reducible refine Within.setCell ?_ (by first | (simp; done) | (simp; omega)) _ | with_reducible refine Within.trans ?_ (by assumption))))).mono ?_; rintro e2 w2 ⟨rfl, h2⟩
    refine hK _ _ (fun _ => (by repeat (first | with_reducible exact Within.refl _ | with_reducible assumption | with_reducible refine Within.alloc ?_ _ | with_reducible refine Within.drew ?_ | with_reducible refine Within.drewN ?_ _ | with_reducible refine Within.setCell ?_ (by first | (simp; done) | (simp; omega)) _ | with_reducible refine Within.trans ?_ (by assumption)))) ?_
    clear hK K
    try simp only [Act.put, List.setIfInBounds_toArray, List.set_cons_zero, List.set_cons_succ]
    refine sch_one rfl rfl (fun K hK => ?_)
    go_simp
    refine (SB9.out _ (by exact hls.of (by repeat (first | with_reducible exact Within.refl _ | with_reducible assumption | with_reducible refine Within.alloc ?_ _ | with_reducible refine Within.drew ?_ | with_reducible refine Within.drewN ?_ _ | with_reducible refine Within.setCell ?_ (by first | (simp; done) | (simp; omega)) _ | with_reducible refine Within.trans ?_ (by assumption))))).mono ?_; rintro e3 w3 ⟨rfl, h3⟩
    refine hK _ _ (fun _ => (by repeat (first | with_reducible exact Within.refl _ | with_reducible assumption | with_reducible refine Within.alloc ?_ _ | with_reducible refine Within.drew ?_ | with_reducible refine Within.drewN ?_ _ | with_reducible refine Within.setCell ?_ (by first | (simp; done) | (simp; omega)) _ | with_reducible refine Within.trans ?_ (by assumption)))) ?_
    clear hK K
    try simp only [Act.put, List.setIfInBounds_toArray, List.set_cons_zero, List.set_cons_succ]
    refine sch_one rfl rfl (fun K hK => ?_)
    go_simp
    refine hK _ _ (fun h => absurd h (by decide)) ?_
    clear hK K
    try simp only [Act.put, List.setIfInBounds_toArray, List.set_cons_zero, List.set_cons_succ]
    refine sch_nil ?_
    go_wp2
    go_ret2
    exact NextPost.why HNE.out HW.out (by decide) (by repeat (first | with_reducible exact Within.refl _ | with_reducible assumption | with_reducible refine Within.alloc ?_ _ | with_reducible refine Within.drew ?_ | with_reducible refine Within.drewN ?_ _ | with_reducible refine Within.setCell ?_ (by first | (simp; done) | (simp; omega)) _ | with_reducible refine Within.trans ?_ (by assumption)))

end Go.Proofs.YtpmjlaiafgbjgaaDoor
end

section
namespace Go.Proofs.YtpmjlaiafgbjgaaDoor
open Go.RowKit

/-- what the reference tells of the record that begins b -/
def TakePost (w : World) (b : List Nat) (n k : Nat) (e : Ending) (w' : World) : Prop :=
  (whyV pf b n k ≠ 0 ∧ e = .returned (.tuple #[.agg #[.int .i64 0, .slice none 0 0], .int .i64 0, .int .u32 0, .int .i64 (whyV pf b n k : Int)]) ∧ Within w w') ∨
  (whyV pf b n k = 0 ∧ ∃ v, e = .returned (.tuple #[.agg #[.int .i64 (b.getD 0 0 : Int), v], .int .i64 ((endV b + 4 : Nat) : Int), .int .u32 (linkV k (b.take (endV b)) : Int), .int .i64 0]) ∧ OwnB w' w.heap.size v ((b.drop 13).take (at4 b 5)) ∧ Within w w')
theorem TakePost.no {w w' : World} {b : List Nat} {n k y : Nat} (h : whyV pf b n k = y) (hy : y ≠ 0) (hw : Within w w') : TakePost w b n k (.returned (.tuple #[.agg #[.int .i64 0, .slice none 0 0], .int .i64 0, .int .u32 0, .int .i64 (y : Int)])) w' := .inl ⟨by rw [h]; exact hy, by rw [h], hw⟩

set_option maxRecDepth 100000 in
set_option maxHeartbeats 1000000 in
theorem Rtake22_any (A : Option Addr) (c : Nat) (b : List Nat) (hb : Bytes b) (hlen : b.length ≤ 140737488355328) (hcb : b.length ≤ c) (n k : Nat) (hk : k < 4294967296) (hn : n ≤ 1048576) (w : World) (hr : SlAt w A (u8v b)) : Calls Tryd.prog 47 #[.slice A b.length c, .int .i64 (n : Int), .int .u32 (k : Int)] w (TakePost w b n k) := by
  obtain ⟨WT, hWT⟩ : ∃ WT, WT = w.alloc (.cells #[.int .i64 0, .slice none 0 0] 50) := ⟨_, rfl⟩
  have q0 : WT.cell? ⟨w.heap.size, 0, none⟩ = some (.int .i64 0) := by rw [hWT]; simp
  have q1 : WT.cell? ⟨w.heap.size, 1, none⟩ = some (.slice none 0 0) := by rw [hWT]; simp
  have qf0 : WT.frozen? ⟨w.heap.size, 0, none⟩ = false := by rw [hWT]; simp
  have qf1 : WT.frozen? ⟨w.heap.size, 1, none⟩ = false := by rw [hWT]; simp
  have hWW0 : Within w WT := by rw [hWT]; exact (Within.refl w).alloc _
  have qs : w.heap.size < WT.heap.size := by rw [hWT]; simp
  have HWN : Hid (Within w WT) := Lib.hid hWW0
  have HR := Lib.hid (hr.of hWW0); have HB := Lib.hid hb
  clear hWW0 hr hb
  obtain ⟨N, hN⟩ : ∃ N, b.length = N := ⟨_, rfl⟩
  rw [hN] at hlen hcb ⊢
  have HN := Lib.hid hN; clear hN
  by_cases h13 : N < 13
  · have v0 : decide ((N : Int) < 13) = true := decide_eq_true (by omega)
    have HW := Lib.hid (why_few (n := n) (k := k) (b := b) (by rw [HN.out]; exact h13))
    clear h13 hn hk
    go_enter Tryd.func47, Tryd.ntmps47
    go_wp2_with fail
    rw [← hWT]
    clear hWT
    go_wp2
    refine bodyPost_ret (v := .tuple #[.agg #[.int .i64 0, .slice none 0 0], .int .i64 0, .int .u32 0, .int .i64 2]) (by simp [results, Tryd.results47, go_sem, q0, q1, qf0, qf1, qs]) rfl (TakePost.no HW.out (by decide) ?_)
    have hwr := HWN.out
    exact (by repeat (first | with_reducible exact Within.refl _ | with_reducible assumption | with_reducible refine Within.alloc ?_ _ | with_reducible refine Within.drew ?_ | with_reducible refine Within.drewN ?_ _ | with_reducible refine Within.setCell ?_ (by first | (simp; done) | (simp; omega)) _ | with_reducible refine Within.trans ?_ (by assumption)))
  have H13 : Hid (¬ b.length < 13) := Lib.hid (by rw [HN.out]; exact h13)
  obtain ⟨m, rfl⟩ : ∃ m, N = m + 13 := ⟨N - 13, by omega⟩
  clear h13
  obtain ⟨ad, rfl, _, _⟩ := SlAt.at (l := b) (k := 0) (by exact HR.out) (by rw [HN.out]; omega)
  have NB : Hid (∀ (W : World) (i : Nat), i ≠ 0 → i + 4 ≤ m + 13 → SlAt W (some ad) (u8v b) → Calls Tryd.prog 65 #[.slice (some ⟨ad.block, ad.off + i, none⟩) 4 (c - i)] W fun e w' => e = .returned (.int .u64 (at4 b i : Int)) ∧ W = w') := Lib.hid (fun W i h0 hi h => by have := Rtake_at ad 0 i 4 b HB.out (by decide) (by rw [HN.out]; omega) (c - i) W h; rw [add_plain' ad h0] at this; exact this)
  have SB : Hid (∀ (W : World) (i : Nat), i ≤ m + 13 → i ≤ 1048600 → SlAt W (some ad) (u8v b) → Calls Tryd.prog 66 #[.int .u32 (k : Int), .slice (some ad) i c] W fun e w' => e = .returned (.int .u32 (linkV k (b.take i) : Int)) ∧ Within W w') := Lib.hid (fun W i hi hi2 h => by
    have hl : (b.take i).length = i := by rw [List.length_take, HN.out]; omega
    have h2 : SlAt W (some ad) (u8v (b.take i)) := by have := h.take i; unfold u8v at this ⊢; rwa [← List.map_take] at this
    have := Rlink_any k hk (some ad) c (b.take i) (HB.out.take i) (by omega) W h2; rw [hl] at this; exact this)
  obtain ⟨x, hx⟩ : ∃ x, b.getD 0 0 = x := ⟨_, rfl⟩
  have KX : Hid (∀ W, SlAt W (some ad) (u8v b) → W.cell? ad = some (.int .u8 (x : Int))) := Lib.hid (fun W h => by obtain ⟨ad', e', _, hc⟩ := SlAt.at (l := b) (k := 0) (by exact h) (by rw [HN.out]; omega); obtain rfl := Option.some.inj e'; rw [add_nought, hx] at hc; exact hc)
  have hxl : x < 256 := by rw [← hx]; exact HB.out.at (by rw [HN.out]; omega)
  obtain ⟨s1, hs1⟩ : ∃ s, at4 b 9 = s := ⟨_, rfl⟩
  obtain ⟨l1, hl1⟩ : ∃ s, linkV k (b.take 9) = s := ⟨_, rfl⟩
  obtain ⟨sz, hsz⟩ : ∃ s, at4 b 5 = s := ⟨_, rfl⟩
  obtain ⟨q, hq⟩ : ∃ s, at4 b 1 = s := ⟨_, rfl⟩
  have hszl : sz < 4294967296 := by rw [← hsz]; exact at4_lt HB.out 5
  have hql : q < 4294967296 := by rw [← hq]; exact at4_lt HB.out 1
  have hs1l : s1 < 4294967296 := by rw [← hs1]; exact at4_lt HB.out 9
  have hl1l : l1 < 4294967296 := by rw [← hl1]; exact linkV_lt (HB.out.take 9)
  have NB9 := Lib.hid (fun W => NB.out W 9 (by decide) (by omega))
  have NB5 := Lib.hid (fun W => NB.out W 5 (by decide) (by omega))
  have NB1 := Lib.hid (fun W => NB.out W 1 (by decide) (by omega))
  rw [hs1] at NB9
  rw [hsz] at NB5
  rw [hq] at NB1
  have SB9 := Lib.hid (fun W => SB.out W 9 (by omega) (by omega))
  rw [hl1] at SB9
  have HX := Lib.hid hx; have HS1 := Lib.hid hs1; have HL1 := Lib.hid hl1; have HSZ := Lib.hid hsz; have HQ := Lib.hid hq; clear hx hs1 hl1 hsz hq
  have v0 : decide ((m : Int) + 13 < 13) = false := decide_eq_false (by omega)
  have cw1 : IntKind.u64.wrap (l1 : Int) = (l1 : Int) := by rw [IntKind.wrap_u64]; omega
  have cwx : IntKind.i64.wrap (x : Int) = (x : Int) := by rw [IntKind.wrap_i64]; omega
  have cwn : IntKind.u64.wrap (n : Int) = (n : Int) := by rw [IntKind.wrap_u64]; omega
  have d1 : (1 : Int) ≤ (m : Int) + 13 := by omega
  have d5 : (5 : Int) ≤ (m : Int) + 13 := by omega
  have d9 : (9 : Int) ≤ (m : Int) + 13 := by omega
  have d13 : (13 : Int) ≤ (m : Int) + 13 := by omega
  have f1 : (1 : Int) ≤ (c : Int) := by omega
  have f5 : (5 : Int) ≤ (c : Int) := by omega
  have f9 : (9 : Int) ≤ (c : Int) := by omega
  have f13 : (13 : Int) ≤ (c : Int) := by omega
  have g1 : ¬ c = 1 := by omega
  have g5 : ¬ c = 5 := by omega
  have g9 : ¬ c = 9 := by omega
  have i1 : 1 ≤ c := by omega
  have i5 : 5 ≤ c := by omega
  have i9 : 9 ≤ c := by omega
  have i13 : 13 ≤ c := by omega
  have z0 : (0 : Int) < (m : Int) + 13 := by omega
  have e0 : (m : Int) + 13 ≤ (c : Int) := by omega
  by_cases hsum : s1 = l1
  · obtain rfl := hsum
    have n1 : ((s1 : Int) != (s1 : Int)) = false := by simp
    have HSE : Hid (¬ at4 b 9 ≠ linkV k (b.take 9)) := Lib.hid (by rw [HS1.out, HL1.out]; exact fun h => h rfl)
    go_enter Tryd.func47, Tryd.ntmps47
    go_wp2_with fail
    rw [← hWT]
    clear hWT
    refine wp_region_schG (fun W => SlAt W (some ad) (u8v b) ∧ Within WT W ∧ W.cell? ⟨w.heap.size, 0, none⟩ = some (.int .i64 0) ∧ W.cell? ⟨w.heap.size, 1, none⟩ = some (.slice none 0 0) ∧ W.frozen? ⟨w.heap.size, 0, none⟩ = false ∧ W.frozen? ⟨w.heap.size, 1, none⟩ = false ∧ w.heap.size < W.heap.size) 8 (.firm 0 (.firm 1 (.firm 3 (.firm 4 (.firm 5 (.one 2 (.one 6 (.firm 7 (.one 8 .nil))))))))) (by kernel_rfl) (by kernel_rfl) ⟨HR.out, Within.refl _, q0, q1, qf0, qf1, qs⟩ ?_
    rintro w0 ⟨hls, hw0, q0, q1, qf0, qf1, qs⟩
    try simp only [Act.put, List.setIfInBounds_toArray, List.set_cons_zero, List.set_cons_succ]
    iterate 5
      apply sch_firm rfl rfl (by repeat (first | with_reducible exact Within.refl _ | with_reducible assumption | with_reducible refine Within.alloc ?_ _ | with_reducible refine Within.drew ?_ | with_reducible refine Within.drewN ?_ _ | with_reducible refine Within.setCell ?_ (by first | (simp; done) | (simp; omega)) _ | with_reducible refine Within.trans ?_ (by assumption)))
      · intro wq hq
        have hcq := hq.cells
        clear hq
        go_simp
        rfl
      try simp only [Act.put, List.setIfInBounds_toArray, List.set_cons_zero, List.set_cons_succ]
    refine sch_one rfl rfl (fun K hK => ?_)
    go_simp
    refine (NB9.out _ (by exact hls.of (by repeat (first | with_reducible exact Within.refl _ | with_reducible assumption | with_reducible refine Within.alloc ?_ _ | with_reducible refine Within.drew ?_ | with_reducible refine Within.drewN ?_ _ | with_reducible refine Within.setCell ?_ (by first | (simp; done) | (simp; omega)) _ | with_reducible refine Within.trans ?_ (by assumption))))).mono ?_; rintro e2 w2 ⟨rfl, rfl⟩
    refine hK _ _ (fun _ => (by repeat (first | with_reducible exact Within.refl _ | with_reducible assumption | with_reducible refine Within.alloc ?_ _ | with_reducible refine Within.drew ?_ | with_reducible refine Within.drewN ?_ _ | with_reducible refine Within.setCell ?_ (by first | (simp; done) | (simp; omega)) _ | with_reducible refine Within.trans ?_ (by assumption)))) ?_
    clear hK K
    try simp only [Act.put, List.setIfInBounds_toArray, List.set_cons_zero, List.set_cons_succ]
    refine sch_one rfl rfl (fun K hK => ?_)
    go_simp
    refine (SB9.out _ (by exact hls.of (by repeat (first | with_reducible exact Within.refl _ | with_reducible assumption | with_reducible refine Within.alloc ?_ _ | with_reducible refine Within.drew ?_ | with_reducible refine Within.drewN ?_ _ | with_reducible refine Within.setCell ?_ (by first | (simp; done) | (simp; omega)) _ | with_reducible refine Within.trans ?_ (by assumption))))).mono ?_; rintro e3 w3 ⟨rfl, h3⟩
    refine hK _ _ (fun _ => (by repeat (first | with_reducible exact Within.refl _ | with_reducible assumption | with_reducible refine Within.alloc ?_ _ | with_reducible refine Within.drew ?_ | with_reducible refine Within.drewN ?_ _ | with_reducible refine Within.setCell ?_ (by first | (simp; done) | (simp; omega)) _ | with_reducible refine Within.trans ?_ (by assumption)))) ?_
    clear hK K
    try simp only [Act.put, List.setIfInBounds_toArray, List.set_cons_zero, List.set_cons_succ]
    apply sch_firm rfl rfl (by repeat (first | with_reducible exact Within.refl _ | with_reducible assumption | with_reducible refine Within.alloc ?_ _ | with_reducible refine Within.drew ?_ | with_reducible refine Within.drewN ?_ _ | with_reducible refine Within.setCell ?_ (by first | (simp; done) | (simp; omega)) _ | with_reducible refine Within.trans ?_ (by assumption)))
    · intro wq hq
      have hcq := hq.cells
      clear hq
      go_simp
      rfl
    try simp only [Act.put, List.setIfInBounds_toArray, List.set_cons_zero, List.set_cons_succ]
    refine sch_one rfl rfl (fun K hK => ?_)
    go_simp
    refine hK _ _ (fun h => absurd h (by decide)) ?_
    clear hK K
    try simp only [Act.put, List.setIfInBounds_toArray, List.set_cons_zero, List.set_cons_succ]
    refine sch_nil ?_
    have HWN := Lib.hid (HWN.out.trans hw0)
    have hxx : Within w0 w3 := (by repeat (first | with_reducible exact Within.refl _ | with_reducible assumption | with_reducible refine Within.alloc ?_ _ | with_reducible refine Within.drew ?_ | with_reducible refine Within.drewN ?_ _ | with_reducible refine Within.setCell ?_ (by first | (simp; done) | (simp; omega)) _ | with_reducible refine Within.trans ?_ (by assumption)))
    have q0 := (hxx.cells _ _ qs).trans q0
    have q1 := (hxx.cells _ _ qs).trans q1
    have qf0 := (hxx.frozens _ _ qs).trans qf0
    have qf1 := (hxx.frozens _ _ qs).trans qf1
    have qs := Nat.lt_of_lt_of_le qs hxx.size
    have HWN := Lib.hid (HWN.out.trans hxx)
    clear hxx
    have HR : Hid (SlAt w3 (some ad) (u8v b)) := Lib.hid (hls.of (by repeat (first | with_reducible exact Within.refl _ | with_reducible assumption | with_reducible refine Within.alloc ?_ _ | with_reducible refine Within.drew ?_ | with_reducible refine Within.drewN ?_ _ | with_reducible refine Within.setCell ?_ (by first | (simp; done) | (simp; omega)) _ | with_reducible refine Within.trans ?_ (by assumption))))
    clear h3 hls hw0
    have kx := KX.out _ HR.out
    by_cases x1 : x < 1
    · have u1 : decide ((x : Int) < 1) = true := decide_eq_true (by omega)
      have HW := Lib.hid (why_form (b := b) (n := n) (k := k) H13.out HSE.out (by rw [HX.out, HQ.out, HSZ.out]; exact .inl x1))
      go_wp2_with fail
      refine (NB5.out _ (by exact HR.out.of (by repeat (first | with_reducible exact Within.refl _ | with_reducible assumption | with_reducible refine Within.alloc ?_ _ | with_reducible refine Within.drew ?_ | with_reducible refine Within.drewN ?_ _ | with_reducible refine Within.setCell ?_ (by first | (simp; done) | (simp; omega)) _ | with_reducible refine Within.trans ?_ (by assumption))))).mono ?_; rintro e5 w5 ⟨rfl, rfl⟩
      go_wp2_with fail
      go_wp2
      refine bodyPost_ret (v := .tuple #[.agg #[.int .i64 0, .slice none 0 0], .int .i64 0, .int .u32 0, .int .i64 3]) (by simp [results, Tryd.results47, go_sem, q0, q1, qf0, qf1, qs]) rfl (TakePost.no HW.out (by decide) ?_)
      have hwr := HWN.out
      exact (by repeat (first | with_reducible exact Within.refl _ | with_reducible assumption | with_reducible refine Within.alloc ?_ _ | with_reducible refine Within.drew ?_ | with_reducible refine Within.drewN ?_ _ | with_reducible refine Within.setCell ?_ (by first | (simp; done) | (simp; omega)) _ | with_reducible refine Within.trans ?_ (by assumption)))
    · by_cases x2 : 3 < x
      · have u1 : decide ((x : Int) < 1) = false := decide_eq_false (by omega)
        have u2 : decide ((x : Int) > 3) = true := decide_eq_true (by omega)
        have HW := Lib.hid (why_form (b := b) (n := n) (k := k) H13.out HSE.out (by rw [HX.out, HQ.out, HSZ.out]; exact .inr (.inl x2)))
        go_wp2_with fail
        refine (NB5.out _ (by exact HR.out.of (by repeat (first | with_reducible exact Within.refl _ | with_reducible assumption | with_reducible refine Within.alloc ?_ _ | with_reducible refine Within.drew ?_ | with_reducible refine Within.drewN ?_ _ | with_reducible refine Within.setCell ?_ (by first | (simp; done) | (simp; omega)) _ | with_reducible refine Within.trans ?_ (by assumption))))).mono ?_; rintro e5 w5 ⟨rfl, rfl⟩
        go_wp2_with fail
        go_wp2
        refine bodyPost_ret (v := .tuple #[.agg #[.int .i64 0, .slice none 0 0], .int .i64 0, .int .u32 0, .int .i64 3]) (by simp [results, Tryd.results47, go_sem, q0, q1, qf0, qf1, qs]) rfl (TakePost.no HW.out (by decide) ?_)
        have hwr := HWN.out
        exact (by repeat (first | with_reducible exact Within.refl _ | with_reducible assumption | with_reducible refine Within.alloc ?_ _ | with_reducible refine Within.drew ?_ | with_reducible refine Within.drewN ?_ _ | with_reducible refine Within.setCell ?_ (by first | (simp; done) | (simp; omega)) _ | with_reducible refine Within.trans ?_ (by assumption)))
      · by_cases x3 : q = n
        · by_cases x4 : 1048576 < sz
          · have u1 : decide ((x : Int) < 1) = false := decide_eq_false (by omega)
            have u2 : decide ((x : Int) > 3) = false := decide_eq_false (by omega)
            have u3 : ((q : Int) != (n : Int)) = false := by rw [bne_eq_false_iff_eq]; omega
            have u4 : decide ((sz : Int) > 1048576) = true := decide_eq_true (by omega)
            have HW := Lib.hid (why_form (b := b) (n := n) (k := k) H13.out HSE.out (by rw [HX.out, HQ.out, HSZ.out]; exact .inr (.inr (.inr (.inl x4)))))
            go_wp2_with fail
            refine (NB5.out _ (by exact HR.out.of (by repeat (first | with_reducible exact Within.refl _ | with_reducible assumption | with_reducible refine Within.alloc ?_ _ | with_reducible refine Within.drew ?_ | with_reducible refine Within.drewN ?_ _ | with_reducible refine Within.setCell ?_ (by first | (simp; done) | (simp; omega)) _ | with_reducible refine Within.trans ?_ (by assumption))))).mono ?_; rintro e5 w5 ⟨rfl, rfl⟩
            go_wp2_with fail
            refine (NB1.out _ (by exact HR.out.of (by repeat (first | with_reducible exact Within.refl _ | with_reducible assumption | with_reducible refine Within.alloc ?_ _ | with_reducible refine Within.drew ?_ | with_reducible refine Within.drewN ?_ _ | with_reducible refine Within.setCell ?_ (by first | (simp; done) | (simp; omega)) _ | with_reducible refine Within.trans ?_ (by assumption))))).mono ?_; rintro e6 w6 ⟨rfl, rfl⟩
            go_wp2_with fail
            go_wp2
            refine bodyPost_ret (v := .tuple #[.agg #[.int .i64 0, .slice none 0 0], .int .i64 0, .int .u32 0, .int .i64 3]) (by simp [results, Tryd.results47, go_sem, q0, q1, qf0, qf1, qs]) rfl (TakePost.no HW.out (by decide) ?_)
            have hwr := HWN.out
            exact (by repeat (first | with_reducible exact Within.refl _ | with_reducible assumption | with_reducible refine Within.alloc ?_ _ | with_reducible refine Within.drew ?_ | with_reducible refine Within.drewN ?_ _ | with_reducible refine Within.setCell ?_ (by first | (simp; done) | (simp; omega)) _ | with_reducible refine Within.trans ?_ (by assumption)))
          · by_cases x5 : 1048576 ≤ n
            · have u1 : decide ((x : Int) < 1) = false := decide_eq_false (by omega)
              have u2 : decide ((x : Int) > 3) = false := decide_eq_false (by omega)
              have u3 : ((q : Int) != (n : Int)) = false := by rw [bne_eq_false_iff_eq]; omega
              have u4 : decide ((sz : Int) > 1048576) = false := decide_eq_false (by omega)
              have u5 : decide ((n : Int) ≥ 1048576) = true := decide_eq_true (by omega)
              have HW := Lib.hid (why_form (b := b) (n := n) (k := k) H13.out HSE.out (by rw [HX.out, HQ.out, HSZ.out]; exact .inr (.inr (.inr (.inr x5)))))
              go_wp2_with fail
              refine (NB5.out _ (by exact HR.out.of (by repeat (first | with_reducible exact Within.refl _ | with_reducible assumption | with_reducible refine Within.alloc ?_ _ | with_reducible refine Within.drew ?_ | with_reducible refine Within.drewN ?_ _ | with_reducible refine Within.setCell ?_ (by first | (simp; done) | (simp; omega)) _ | with_reducible refine Within.trans ?_ (by assumption))))).mono ?_; rintro e5 w5 ⟨rfl, rfl⟩
              go_wp2_with fail
              refine (NB1.out _ (by exact HR.out.of (by repeat (first | with_reducible exact Within.refl _ | with_reducible assumption | with_reducible refine Within.alloc ?_ _ | with_reducible refine Within.drew ?_ | with_reducible refine Within.drewN ?_ _ | with_reducible refine Within.setCell ?_ (by first | (simp; done) | (simp; omega)) _ | with_reducible refine Within.trans ?_ (by assumption))))).mono ?_; rintro e6 w6 ⟨rfl, rfl⟩
              go_wp2_with fail
              go_wp2
              refine bodyPost_ret (v := .tuple #[.agg #[.int .i64 0, .slice none 0 0], .int .i64 0, .int .u32 0, .int .i64 3]) (by simp [results, Tryd.results47, go_sem, q0, q1, qf0, qf1, qs]) rfl (TakePost.no HW.out (by decide) ?_)
              have hwr := HWN.out
              exact (by repeat (first | with_reducible exact Within.refl _ | with_reducible assumption | with_reducible refine Within.alloc ?_ _ | with_reducible refine Within.drew ?_ | with_reducible refine Within.drewN ?_ _ | with_reducible refine Within.setCell ?_ (by first | (simp; done) | (simp; omega)) _ | with_reducible refine Within.trans ?_ (by assumption)))
            · have HF : Hid (¬ (b.getD 0 0 < 1 ∨ 3 < b.getD 0 0 ∨ at4 b 1 ≠ n ∨ 1048576 < at4 b 5 ∨ 1048576 ≤ n)) := Lib.hid (by rw [HX.out, HQ.out, HSZ.out]; omega)
              obtain ⟨E, hE⟩ : ∃ E, 13 + sz = E := ⟨_, rfl⟩
              have HEV : Hid (endV b = E) := Lib.hid (by unfold endV; rw [HSZ.out]; exact hE)
              have cE : (13 : Int) + (sz : Int) = (E : Int) := by omega
              have hEl : E ≤ 1048589 := by omega
              have hE13 : 13 ≤ E := by omega
              have HEE := Lib.hid hE; clear hE
              by_cases hsh : m + 13 < E + 4
              · have u1 : decide ((x : Int) < 1) = false := decide_eq_false (by omega)
                have u2 : decide ((x : Int) > 3) = false := decide_eq_false (by omega)
                have u3 : ((q : Int) != (n : Int)) = false := by rw [bne_eq_false_iff_eq]; omega
                have u4 : decide ((sz : Int) > 1048576) = false := decide_eq_false (by omega)
                have u5 : decide ((n : Int) ≥ 1048576) = false := decide_eq_false (by omega)
                have v1 : decide ((m : Int) + 13 < (E : Int) + 4) = true := decide_eq_true (by omega)
                have HW := Lib.hid (why_short (b := b) (n := n) (k := k) H13.out HSE.out HF.out (by rw [HN.out, HEV.out]; exact hsh))
                go_wp2_with fail
                refine (NB5.out _ (by exact HR.out.of (by repeat (first | with_reducible exact Within.refl _ | with_reducible assumption | with_reducible refine Within.alloc ?_ _ | with_reducible refine Within.drew ?_ | with_reducible refine Within.drewN ?_ _ | with_reducible refine Within.setCell ?_ (by first | (simp; done) | (simp; omega)) _ | with_reducible refine Within.trans ?_ (by assumption))))).mono ?_; rintro e5 w5 ⟨rfl, rfl⟩
                go_wp2_with fail
                refine (NB1.out _ (by exact HR.out.of (by repeat (first | with_reducible exact Within.refl _ | with_reducible assumption | with_reducible refine Within.alloc ?_ _ | with_reducible refine Within.drew ?_ | with_reducible refine Within.drewN ?_ _ | with_reducible refine Within.setCell ?_ (by first | (simp; done) | (simp; omega)) _ | with_reducible refine Within.trans ?_ (by assumption))))).mono ?_; rintro e6 w6 ⟨rfl, rfl⟩
                go_wp2_with fail
                go_wp2
                refine bodyPost_ret (v := .tuple #[.agg #[.int .i64 0, .slice none 0 0], .int .i64 0, .int .u32 0, .int .i64 2]) (by simp [results, Tryd.results47, go_sem, q0, q1, qf0, qf1, qs]) rfl (TakePost.no HW.out (by decide) ?_)
                have hwr := HWN.out
                exact (by repeat (first | with_reducible exact Within.refl _ | with_reducible assumption | with_reducible refine Within.alloc ?_ _ | with_reducible refine Within.drew ?_ | with_reducible refine Within.drewN ?_ _ | with_reducible refine Within.setCell ?_ (by first | (simp; done) | (simp; omega)) _ | with_reducible refine Within.trans ?_ (by assumption)))
              · have v1 : decide ((m : Int) + 13 < (E : Int) + 4) = false := decide_eq_false (by omega)
                have HSH : Hid (¬ b.length < endV b + 4) := Lib.hid (by rw [HN.out, HEV.out]; exact hsh)
                obtain ⟨nx, hnx⟩ : ∃ s, linkV k (b.take E) = s := ⟨_, rfl⟩
                obtain ⟨s2, hs2⟩ : ∃ s, at4 b E = s := ⟨_, rfl⟩
                have hnxl : nx < 4294967296 := by rw [← hnx]; exact linkV_lt (HB.out.take E)
                have hs2l : s2 < 4294967296 := by rw [← hs2]; exact at4_lt HB.out E
                have SBE := Lib.hid (fun W => SB.out W E (by omega) (by omega))
                rw [hnx] at SBE
                have NBE : Hid (∀ W, SlAt W (some ad) (u8v b) → Calls Tryd.prog 65 #[.slice (some (ad.add E)) 4 (c - E)] W fun e w' => e = .returned (.int .u64 (s2 : Int)) ∧ W = w') := Lib.hid (fun W h => by rw [← hs2]; exact Rtake_at ad 0 E 4 b HB.out (by decide) (by rw [HN.out]; omega) (c - E) W h)
                have HNX := Lib.hid hnx; have HS2 := Lib.hid hs2; clear hnx hs2
                have t1 : (0 : Int) ≤ (E : Int) := by omega
                have t2 : (E : Int) ≤ (c : Int) := by omega
                have t3 : E ≤ c := by omega
                have t4 : (E : Int) + 4 ≤ (c : Int) := by omega
                have t5 : E + 4 ≤ c := by omega
                have t6 : ¬ c = E := by omega
                have t7 : (E : Int) ≤ (m : Int) + 13 := by omega
                have u1 : decide ((x : Int) < 1) = false := decide_eq_false (by omega)
                have u2 : decide ((x : Int) > 3) = false := decide_eq_false (by omega)
                have u3 : ((q : Int) != (n : Int)) = false := by rw [bne_eq_false_iff_eq]; omega
                have u4 : decide ((sz : Int) > 1048576) = false := decide_eq_false (by omega)
                have u5 : decide ((n : Int) ≥ 1048576) = false := decide_eq_false (by omega)
                go_wp2_with fail
                refine (NB5.out _ (by exact HR.out.of (by repeat (first | with_reducible exact Within.refl _ | with_reducible assumption | with_reducible refine Within.alloc ?_ _ | with_reducible refine Within.drew ?_ | with_reducible refine Within.drewN ?_ _ | with_reducible refine Within.setCell ?_ (by first | (simp; done) | (simp; omega)) _ | with_reducible refine Within.trans ?_ (by assumption))))).mono ?_; rintro e5 w5 ⟨rfl, rfl⟩
                go_wp2_with fail
                refine (NB1.out _ (by exact HR.out.of (by repeat (first | with_reducible exact Within.refl _ | with_reducible assumption | with_reducible refine Within.alloc ?_ _ | with_reducible refine Within.drew ?_ | with_reducible refine Within.drewN ?_ _ | with_reducible refine Within.setCell ?_ (by first | (simp; done) | (simp; omega)) _ | with_reducible refine Within.trans ?_ (by assumption))))).mono ?_; rintro e6 w6 ⟨rfl, rfl⟩
                go_wp2_with fail
                have hA : Within w3 (w3.alloc (.cells #[.int .i64 (x : Int), .slice none 0 0] 50)) := (Within.refl w3).alloc _
                refine (SBE.out _ (HR.out.of hA)).mono ?_; rintro e7 w7 ⟨rfl, h7⟩
                have r0 : w7.cell? ⟨w3.heap.size, 0, none⟩ = some (.int .i64 (x : Int)) := (h7.cells _ _ (by simp)).trans (by simp)
                have r1 : w7.cell? ⟨w3.heap.size, 1, none⟩ = some (.slice none 0 0) := (h7.cells _ _ (by simp)).trans (by simp)
                have rf0 : w7.frozen? ⟨w3.heap.size, 0, none⟩ = false := (h7.frozens _ _ (by simp)).trans (by simp)
                have rf1 : w7.frozen? ⟨w3.heap.size, 1, none⟩ = false := (h7.frozens _ _ (by simp)).trans (by simp)
                have rs7 : w3.heap.size < w7.heap.size := Nat.lt_of_lt_of_le (by simp) h7.size
                have rne : ¬ w.heap.size = w3.heap.size := by omega
                have hxx : Within w3 w7 := (by repeat (first | with_reducible exact Within.refl _ | with_reducible assumption | with_reducible refine Within.alloc ?_ _ | with_reducible refine Within.drew ?_ | with_reducible refine Within.drewN ?_ _ | with_reducible refine Within.setCell ?_ (by first | (simp; done) | (simp; omega)) _ | with_reducible refine Within.trans ?_ (by assumption)))
                have q0 := (hxx.cells _ _ qs).trans q0
                have q1 := (hxx.cells _ _ qs).trans q1
                have qf0 := (hxx.frozens _ _ qs).trans qf0
                have qf1 := (hxx.frozens _ _ qs).trans qf1
                have qs := Nat.lt_of_lt_of_le qs hxx.size
                have HWN := Lib.hid (HWN.out.trans hxx)
                clear hxx
                have qs7 := qs
                have HR7 : Hid (SlAt w7 (some ad) (u8v b)) := Lib.hid (HR.out.of (hA.trans h7))
                clear h7 hA
                by_cases hlk : s2 = nx
                · have v2 : ((s2 : Int) != (nx : Int)) = false := by rw [bne_eq_false_iff_eq]; omega
                  have HLE : Hid (¬ at4 b (endV b) ≠ linkV k (b.take (endV b))) := Lib.hid (by rw [HEV.out, HS2.out, HNX.out]; exact fun h => h hlk)
                  clear hlk
                  go_wp2_with fail
                  refine (NBE.out _ (by exact HR7.out)).mono ?_; rintro e8 w8 ⟨rfl, rfl⟩
                  obtain ⟨dd, hdd⟩ : ∃ dd, (b.drop 13).take sz = dd := ⟨_, rfl⟩
                  have hdl : dd.length = sz := by rw [← hdd, List.length_take, List.length_drop, HN.out]; have := HEE.out; omega
                  have hdb : Bytes dd := by rw [← hdd]; exact (HB.out.drop 13).take sz
                  have hds : SlAt w7 (some (ad.add 13)) (u8v dd) := by have := (left_at HR7.out 13).take sz; rw [← hdd]; unfold u8v at this ⊢; rwa [← List.map_take] at this
                  rw [add_plain' ad (by decide)] at hds
                  have hin2 := (Within.refl w7).alloc (.cells #[] 5)
                  obtain ⟨v9, w9, hrun, hO9, hB9⟩ := run_app_u8 _ w7.heap.size _ [] dd (OwnB.lit w7 w7.heap.size (Nat.le_refl _) [] (by simp)) (some ⟨ad.block, ad.off + 13, none⟩) (c - 13) (hds.of hin2) (by rw [List.length_nil, hdl]; omega) hin2.size
                  rw [List.nil_append] at hO9
                  have hX9 : Within w7 w9 := Below.trans hin2 hB9
                  have r0 := (hX9.cells _ _ rs7).trans r0
                  have r1 := (hX9.cells _ _ rs7).trans r1
                  have rf0 := (hX9.frozens _ _ rs7).trans rf0
                  have rf1 := (hX9.frozens _ _ rs7).trans rf1
                  have rs9 := Nat.lt_of_lt_of_le rs7 hX9.size
                  have hxx : Within w7 w9 := (by repeat (first | with_reducible exact Within.refl _ | with_reducible assumption | with_reducible refine Within.alloc ?_ _ | with_reducible refine Within.drew ?_ | with_reducible refine Within.drewN ?_ _ | with_reducible refine Within.setCell ?_ (by first | (simp; done) | (simp; omega)) _ | with_reducible refine Within.trans ?_ (by assumption)))
                  have q0 := (hxx.cells _ _ qs).trans q0
                  have q1 := (hxx.cells _ _ qs).trans q1
                  have qf0 := (hxx.frozens _ _ qs).trans qf0
                  have qf1 := (hxx.frozens _ _ qs).trans qf1
                  have qs := Nat.lt_of_lt_of_le qs hxx.size
                  have HWN := Lib.hid (HWN.out.trans hxx)
                  clear hxx
                  obtain ⟨A9, c9, rfl, hc9, hs9, hD9⟩ := hO9.form
                  have hK : ∀ u, But w3.heap.size w9 (w9.setCell ⟨w3.heap.size, 1, none⟩ u) := fun u => (But.refl w3.heap.size w9).set (.inl rfl) u
                  have hs10 : SlAt (w9.setCell ⟨w3.heap.size, 1, none⟩ (.slice A9 dd.length c9)) A9 (u8v dd) := hs9.but (hK _) (fun x e => by have := hD9 x e; omega)
                  have JC := Rjcheck_any (x : Int) A9 c9 dd hdb hc9 (by rw [hdl]; omega) _ hs10
                  rw [hdl] at JC hO9 hc9 hrun
                  obtain ⟨ck, hck⟩ : ∃ ck, checkR pf (x : Int) dd = ck := ⟨_, rfl⟩
                  rw [hck] at JC
                  have y5 : (13 : Int) ≤ (E : Int) := by omega
                  have y6 : E - 13 = sz := by have := HEE.out; omega
                  have y7 : ¬ c = 13 := by omega
                  have y9 : 13 ≤ E := by omega
                  have RUN := Lib.hid hrun; have HJC := Lib.hid JC; have HO9 := Lib.hid hO9; have HCK := Lib.hid hck; have HDD := Lib.hid hdd; have HK := Lib.hid hK
                  clear hrun JC hO9 hck hdd hK hs10 hs9 hD9 hds hin2 hB9 hX9 hdb hdl hc9
                  go_wp2_with (at_builtin; refine wpList_append_run rfl (.tmp 85) (.tmp 88) 22 rfl _ _ rfl rfl RUN.out ?_)
                  refine HJC.out.mono ?_; rintro e10 w10 ⟨rfl, h10⟩
                  clear HJC
                  have hk9 := HK.out (.slice A9 sz c9)
                  have ts : (w9.setCell ⟨w3.heap.size, 1, none⟩ (.slice A9 sz c9)).heap.size = w9.heap.size := by simp
                  have r0 : w10.cell? ⟨w3.heap.size, 0, none⟩ = some (.int .i64 (x : Int)) := (h10.cells w3.heap.size 0 (by rw [ts]; exact rs9)).trans (by rw [World.cell?_setCell_other _ _ _ _ (by simp)]; exact r0)
                  have r1 := (h10.cells w3.heap.size 1 (by rw [ts]; exact rs9)).trans (World.cell?_setCell_same _ _ (.slice A9 sz c9) r1)
                  have rf0 : w10.frozen? ⟨w3.heap.size, 0, none⟩ = false := (h10.frozens w3.heap.size 0 (by rw [ts]; exact rs9)).trans (by rw [World.frozen?_setCell]; exact rf0)
                  have rf1 : w10.frozen? ⟨w3.heap.size, 1, none⟩ = false := (h10.frozens w3.heap.size 1 (by rw [ts]; exact rs9)).trans (by rw [World.frozen?_setCell]; exact rf1)
                  have rs10 : w3.heap.size < w10.heap.size := Nat.lt_of_lt_of_le (by rw [ts]; exact rs9) h10.size
                  have q0 := (h10.cells w.heap.size 0 (by rw [ts]; exact qs)).trans ((hk9.cells _ 0 qs rne).trans q0)
                  have q1 := (h10.cells w.heap.size 1 (by rw [ts]; exact qs)).trans ((hk9.cells _ 1 qs rne).trans q1)
                  have qf0 := (h10.frozens w.heap.size 0 (by rw [ts]; exact qs)).trans ((hk9.frozens _ 0 qs rne).trans qf0)
                  have qf1 := (h10.frozens w.heap.size 1 (by rw [ts]; exact qs)).trans ((hk9.frozens _ 1 qs rne).trans qf1)
                  have HWN := Lib.hid ((HWN.out.setCell (p := ⟨w3.heap.size, 1, none⟩) (by show w.heap.size ≤ w3.heap.size; omega) (.slice A9 sz c9)).trans h10)
                  have qs := Nat.lt_of_lt_of_le qs (by rw [← ts]; exact h10.size)
                  have H10 := Lib.hid h10; clear h10 ts hk9
                  by_cases hc0 : ck = 0
                  · have v3 : (ck != 0) = false := by rw [hc0]; rfl
                    have hwhy := Lib.hid (show whyV pf b n k = 0 by rw [why_rec H13.out HSE.out HF.out HSH.out HLE.out, HX.out, HSZ.out, HDD.out, HCK.out, if_neg (by rw [hc0]; decide)])
                    clear hc0
                    go_wp2
                    have hK10 : But w.heap.size w10 ((w10.setCell ⟨w.heap.size, 0, none⟩ (.int .i64 (x : Int))).setCell ⟨w.heap.size, 1, none⟩ (.slice A9 sz c9)) := ((But.refl w.heap.size w10).set (.inl rfl) _).set (.inl rfl) _
                    have hO10 := ((((HO9.out.but (HK.out (.slice A9 sz c9)) rs7).of H10.out).but hK10 qs7).less (Nat.le_of_lt qs7))
                    refine bodyPost_ret (v := .tuple #[.agg #[.int .i64 (x : Int), .slice A9 sz c9], .int .i64 ((E : Int) + 4), .int .u32 (nx : Int), .int .i64 0]) (by simp [results, Tryd.results47, go_sem, q0, q1, qf0, qf1, qs]) rfl (.inr ⟨hwhy.out, .slice A9 sz c9, ?_, ?_, ?_⟩)
                    · rw [HX.out, HEV.out, HNX.out]; rfl
                    · rw [HSZ.out, HDD.out]; exact hO10
                    · exact ((HWN.out.setCell (Nat.le_refl _) _).setCell (Nat.le_refl _) _)
                  · have v3 : (ck != 0) = true := bne_iff_ne.2 hc0
                    have HW := Lib.hid (show whyV pf b n k = 3 by rw [why_rec H13.out HSE.out HF.out HSH.out HLE.out, HX.out, HSZ.out, HDD.out, HCK.out, if_pos hc0])
                    clear hc0
                    go_wp2
                    refine bodyPost_ret (v := .tuple #[.agg #[.int .i64 0, .slice none 0 0], .int .i64 0, .int .u32 0, .int .i64 3]) (by simp [results, Tryd.results47, go_sem, q0, q1, qf0, qf1, qs]) rfl (TakePost.no HW.out (by decide) ?_)
                    have hwr := HWN.out
                    exact (by repeat (first | with_reducible exact Within.refl _ | with_reducible assumption | with_reducible refine Within.alloc ?_ _ | with_reducible refine Within.drew ?_ | with_reducible refine Within.drewN ?_ _ | with_reducible refine Within.setCell ?_ (by first | (simp; done) | (simp; omega)) _ | with_reducible refine Within.trans ?_ (by assumption)))
                · have v2 : ((s2 : Int) != (nx : Int)) = true := bne_iff_ne.2 (by omega)
                  have HW := Lib.hid (why_link (b := b) (n := n) (k := k) H13.out HSE.out HF.out HSH.out (by rw [HEV.out, HS2.out, HNX.out]; exact hlk))
                  clear hlk
                  go_wp2_with fail
                  refine (NBE.out _ (by exact HR7.out)).mono ?_; rintro e8 w8 ⟨rfl, rfl⟩
                  go_wp2
                  refine bodyPost_ret (v := .tuple #[.agg #[.int .i64 0, .slice none 0 0], .int .i64 0, .int .u32 0, .int .i64 4]) (by simp [results, Tryd.results47, go_sem, q0, q1, qf0, qf1, qs]) rfl (TakePost.no HW.out (by decide) ?_)
                  have hwr := HWN.out
                  exact (by repeat (first | with_reducible exact Within.refl _ | with_reducible assumption | with_reducible refine Within.alloc ?_ _ | with_reducible refine Within.drew ?_ | with_reducible refine Within.drewN ?_ _ | with_reducible refine Within.setCell ?_ (by first | (simp; done) | (simp; omega)) _ | with_reducible refine Within.trans ?_ (by assumption)))
        · have u1 : decide ((x : Int) < 1) = false := decide_eq_false (by omega)
          have u2 : decide ((x : Int) > 3) = false := decide_eq_false (by omega)
          have u3 : ((q : Int) != (n : Int)) = true := bne_iff_ne.2 (by omega)
          have HW := Lib.hid (why_form (b := b) (n := n) (k := k) H13.out HSE.out (by rw [HX.out, HQ.out, HSZ.out]; exact .inr (.inr (.inl x3))))
          go_wp2_with fail
          refine (NB5.out _ (by exact HR.out.of (by repeat (first | with_reducible exact Within.refl _ | with_reducible assumption | with_reducible refine Within.alloc ?_ _ | with_reducible refine Within.drew ?_ | with_reducible refine Within.drewN ?_ _ | with_reducible refine Within.setCell ?_ (by first | (simp; done) | (simp; omega)) _ | with_reducible refine Within.trans ?_ (by assumption))))).mono ?_; rintro e5 w5 ⟨rfl, rfl⟩
          go_wp2_with fail
          refine (NB1.out _ (by exact HR.out.of (by repeat (first | with_reducible exact Within.refl _ | with_reducible assumption | with_reducible refine Within.alloc ?_ _ | with_reducible refine Within.drew ?_ | with_reducible refine Within.drewN ?_ _ | with_reducible refine Within.setCell ?_ (by first | (simp; done) | (simp; omega)) _ | with_reducible refine Within.trans ?_ (by assumption))))).mono ?_; rintro e6 w6 ⟨rfl, rfl⟩
          go_wp2_with fail
          go_wp2
          refine bodyPost_ret (v := .tuple #[.agg #[.int .i64 0, .slice none 0 0], .int .i64 0, .int .u32 0, .int .i64 3]) (by simp [results, Tryd.results47, go_sem, q0, q1, qf0, qf1, qs]) rfl (TakePost.no HW.out (by decide) ?_)
          have hwr := HWN.out
          exact (by repeat (first | with_reducible exact Within.refl _ | with_reducible assumption | with_reducible refine Within.alloc ?_ _ | with_reducible refine Within.drew ?_ | with_reducible refine Within.drewN ?_ _ | with_reducible refine Within.setCell ?_ (by first | (simp; done) | (simp; omega)) _ | with_reducible refine Within.trans ?_ (by assumption)))
  · have n1 : ((s1 : Int) != (l1 : Int)) = true := bne_iff_ne.2 (by omega)
    have HW := Lib.hid (why_sum (b := b) (n := n) (k := k) H13.out (by rw [HS1.out, HL1.out]; exact hsum))
    clear hsum
    go_enter Tryd.func47, Tryd.ntmps47
    go_wp2_with fail
    rw [← hWT]
    clear hWT
    refine wp_region_schG (fun W => SlAt W (some ad) (u8v b) ∧ Within WT W ∧ W.cell? ⟨w.heap.size, 0, none⟩ = some (.int .i64 0) ∧ W.cell? ⟨w.heap.size, 1, none⟩ = some (.slice none 0 0) ∧ W.frozen? ⟨w.heap.size, 0, none⟩ = false ∧ W.frozen? ⟨w.heap.size, 1, none⟩ = false ∧ w.heap.size < W.heap.size) 8 (.firm 0 (.firm 1 (.firm 3 (.firm 4 (.firm 5 (.one 2 (.one 6 (.firm 7 (.one 8 .nil))))))))) (by kernel_rfl) (by kernel_rfl) ⟨HR.out, Within.refl _, q0, q1, qf0, qf1, qs⟩ ?_
    rintro w0 ⟨hls, hw0, q0, q1, qf0, qf1, qs⟩
    try simp only [Act.put, List.setIfInBounds_toArray, List.set_cons_zero, List.set_cons_succ]
    iterate 5
      apply sch_firm rfl rfl (by repeat (first | with_reducible exact Within.refl _ | with_reducible assumption | with_reducible refine Within.alloc ?_ _ | with_reducible refine Within.drew ?_ | with_reducible refine Within.drewN ?_ _ | with_reducible refine Within.setCell ?_ (by first | (simp; done) | (simp; omega)) _ | with_reducible refine Within.trans ?_ (by assumption)))
      · intro wq hq
        have hcq := hq.cells
        clear hq
        go_simp
        rfl
      try simp only [Act.put, List.setIfInBounds_toArray, List.set_cons_zero, List.set_cons_succ]
    refine sch_one rfl rfl (fun K hK => ?_)
    go_simp
    refine (NB9.out _ (by exact hls.of (by repeat (first | with_reducible exact Within.refl _ | with_reducible assumption | with_reducible refine Within.alloc ?_ _ | with_reducible refine Within.drew ?_ | with_reducible refine Within.drewN ?_ _ | with_reducible refine Within.setCell ?_ (by first | (simp; done) | (simp; omega)) _ | with_reducible refine Within.trans ?_ (by assumption))))).mono ?_; rintro e2 w2 ⟨rfl, rfl⟩
    refine hK _ _ (fun _ => (by repeat (first | with_reducible exact Within.refl _ | with_reducible assumption | with_reducible refine Within.alloc ?_ _ | with_reducible refine Within.drew ?_ | with_reducible refine Within.drewN ?_ _ | with_reducible refine Within.setCell ?_ (by first | (simp; done) | (simp; omega)) _ | with_reducible refine Within.trans ?_ (by assumption)))) ?_
    clear hK K
    try simp only [Act.put, List.setIfInBounds_toArray, List.set_cons_zero, List.set_cons_succ]
    refine sch_one rfl rfl (fun K hK => ?_)
    go_simp
    refine (SB9.out _ (by exact hls.of (by repeat (first | with_reducible exact Within.refl _ | with_reducible assumption | with_reducible refine Within.alloc ?_ _ | with_reducible refine Within.drew ?_ | with_reducible refine Within.drewN ?_ _ | with_reducible refine Within.setCell ?_ (by first | (simp; done) | (simp; omega)) _ | with_reducible refine Within.trans ?_ (by assumption))))).mono ?_; rintro e3 w3 ⟨rfl, h3⟩
    refine hK _ _ (fun _ => (by repeat (first | with_reducible exact Within.refl _ | with_reducible assumption | with_reducible refine Within.alloc ?_ _ | with_reducible refine Within.drew ?_ | with_reducible refine Within.drewN ?_ _ | with_reducible refine Within.setCell ?_ (by first | (simp; done) | (simp; omega)) _ | with_reducible refine Within.trans ?_ (by assumption)))) ?_
    clear hK K
    try simp only [Act.put, List.setIfInBounds_toArray, List.set_cons_zero, List.set_cons_succ]
    apply sch_firm rfl rfl (by repeat (first | with_reducible exact Within.refl _ | with_reducible assumption | with_reducible refine Within.alloc ?_ _ | with_reducible refine Within.drew ?_ | with_reducible refine Within.drewN ?_ _ | with_reducible refine Within.setCell ?_ (by first | (simp; done) | (simp; omega)) _ | with_reducible refine Within.trans ?_ (by assumption)))
    · intro wq hq
      have hcq := hq.cells
      clear hq
      go_simp
      rfl
    try simp only [Act.put, List.setIfInBounds_toArray, List.set_cons_zero, List.set_cons_succ]
    refine sch_one rfl rfl (fun K hK => ?_)
    go_simp
    refine hK _ _ (fun h => absurd h (by decide)) ?_
    clear hK K
    try simp only [Act.put, List.setIfInBounds_toArray, List.set_cons_zero, List.set_cons_succ]
    refine sch_nil ?_
    have HWN := Lib.hid (HWN.out.trans hw0)
    have hxx : Within w0 w3 := (by repeat (first | with_reducible exact Within.refl _ | with_reducible assumption | with_reducible refine Within.alloc ?_ _ | with_reducible refine Within.drew ?_ | with_reducible refine Within.drewN ?_ _ | with_reducible refine Within.setCell ?_ (by first | (simp; done) | (simp; omega)) _ | with_reducible refine Within.trans ?_ (by assumption)))
    have q0 := (hxx.cells _ _ qs).trans q0
    have q1 := (hxx.cells _ _ qs).trans q1
    have qf0 := (hxx.frozens _ _ qs).trans qf0
    have qf1 := (hxx.frozens _ _ qs).trans qf1
    have qs := Nat.lt_of_lt_of_le qs hxx.size
    have HWN := Lib.hid (HWN.out.trans hxx)
    clear hxx
    have HR : Hid (SlAt w3 (some ad) (u8v b)) := Lib.hid (hls.of (by repeat (first | with_reducible exact Within.refl _ | with_reducible assumption | with_reducible refine Within.alloc ?_ _ | with_reducible refine Within.drew ?_ | with_reducible refine Within.drewN ?_ _ | with_reducible refine Within.setCell ?_ (by first | (simp; done) | (simp; omega)) _ | with_reducible refine Within.trans ?_ (by assumption))))
    clear h3 hls hw0
    go_wp2
    refine bodyPost_ret (v := .tuple #[.agg #[.int .i64 0, .slice none 0 0], .int .i64 0, .int .u32 0, .int .i64 4]) (by simp [results, Tryd.results47, go_sem, q0, q1, qf0, qf1, qs]) rfl (TakePost.no HW.out (by decide) ?_)
    have hwr := HWN.out
    exact (by repeat (first | with_reducible exact Within.refl _ | with_reducible assumption | with_reducible refine Within.alloc ?_ _ | with_reducible refine Within.drew ?_ | with_reducible refine Within.drewN ?_ _ | with_reducible refine Within.setCell ?_ (by first | (simp; done) | (simp; omega)) _ | with_reducible refine Within.trans ?_ (by assumption)))

end Go.Proofs.YtpmjlaiafgbjgaaDoor
end

section
namespace Go.Proofs.YtpmjlaiafgbjgaaDoor
variable {F : Fl}

theorem readV_log {l : List Rec} (h : ∀ r ∈ l, r.Ok F) (hn : l.length ≤ 1048576) : readV F (laidV l 0 startV) 0 startV = (l, 0, (laidV l 0 startV).length, lastV l 0 startV) := by
  have := readV_laid l 0 startV [] h (by omega)
  rw [List.append_nil, readV_nil, List.append_nil] at this
  rw [this, Nat.zero_add]
theorem startV_lt : startV < 4294967296 := by decide +kernel
theorem laidV_bytes : ∀ {l : List Rec} (n last : Nat), (∀ r ∈ l, r.Ok F) → Bytes (laidV l n last)
  | [], _, _, _ => fun c hc => by cases hc
  | r :: l, n, last, h => (layV_bytes (h r (by simp)) n last).append (laidV_bytes _ _ fun r hr => h r (by simp [hr]))

/-- how many records lie wholly in so many bytes -/
def cntV : List Rec → Nat → Nat
  | [], _ => 0
  | r :: l, k => if 13 + r.data.length + 4 ≤ k then cntV l (k - (13 + r.data.length + 4)) + 1 else 0
theorem cntV_le : ∀ (l : List Rec) (k : Nat), cntV l k ≤ l.length
  | [], _ => Nat.le_refl _
  | r :: l, k => by
    unfold cntV
    split
    · have := cntV_le l (k - (13 + r.data.length + 4)); rw [List.length_cons]; omega
    · exact Nat.zero_le _
/-- a beginning of a record's bytes is no record -/
theorem whyV_begun {r : Rec} (h : r.Ok F) {n last k : Nat} (hn : n < 1048576) (hk : k < 13 + r.data.length + 4) : whyV F ((layV r n last).take k) n last = 2 := by
  obtain ⟨h1, h2, h3⟩ := h.parts
  have hl := layV_len r n last
  have hlk : ((layV r n last).take k).length = k := by rw [List.length_take]; omega
  by_cases c1 : k < 13
  · unfold whyV; rw [if_pos (by rw [hlk]; exact c1)]
  obtain ⟨p1, p2, p3, p4, p5⟩ := layV_parts h (n := n) (last := last) (by omega) []
  rw [List.append_nil] at p1 p2 p3 p4 p5
  have a4 : ∀ i, i + 4 ≤ k → at4 ((layV r n last).take k) i = at4 (layV r n last) i := fun i hi => by
    unfold at4
    rw [List.drop_take, List.take_take, show min 4 (k - i) = 4 by omega]
  have t9 : ((layV r n last).take k).take 9 = (layV r n last).take 9 := by rw [List.take_take, show min 9 k = 9 by omega]
  have g0 : ((layV r n last).take k).getD 0 0 = (layV r n last).getD 0 0 := by
    conv => rhs; rw [← List.take_append_drop k (layV r n last)]
    rw [getD_app (by omega)]
  unfold whyV
  rw [if_neg (by omega), a4 9 (by omega), t9, p1, p2, if_neg (fun k => k rfl), g0, p3, a4 1 (by omega), p4, a4 5 (by omega), p5, if_neg (by omega)]
  have : endV ((layV r n last).take k) = 13 + r.data.length := by unfold endV; rw [a4 5 (by omega), p5]
  rw [this, if_pos (by omega)]
theorem readV_torn : ∀ (l : List Rec) (n last k : Nat), (∀ r ∈ l, r.Ok F) → n + l.length ≤ 1048576 → k ≤ (laidV l n last).length →
    (readV F ((laidV l n last).take k) n last).1 = l.take (cntV l k) ∧ (readV F ((laidV l n last).take k) n last).2.1 = (if k = (laidV (l.take (cntV l k)) n last).length then 0 else 2) ∧
    (readV F ((laidV l n last).take k) n last).2.2.1 = (laidV (l.take (cntV l k)) n last).length
  | [], n, last, k, _, _, hk => by
    have : k = 0 := by simpa [laidV] using hk
    subst this
    rw [List.take_zero, readV_nil]
    exact ⟨rfl, rfl, rfl⟩
  | r :: l, n, last, k, h, hn, hk => by
    have hr := h r (by simp)
    rw [List.length_cons] at hn
    have hl := layV_len r n last
    have e : laidV (r :: l) n last = layV r n last ++ laidV l (n + 1) (nextV r n last) := rfl
    by_cases hc : 13 + r.data.length + 4 ≤ k
    · have hcn : cntV (r :: l) k = cntV l (k - (13 + r.data.length + 4)) + 1 := by show (if _ then _ else _) = _; rw [if_pos hc]
      have et : (laidV (r :: l) n last).take k = layV r n last ++ (laidV l (n + 1) (nextV r n last)).take (k - (13 + r.data.length + 4)) := by
        rw [e, List.take_append, List.take_of_length_le (by omega), hl]
      rw [e, List.length_append, hl] at hk
      obtain ⟨i1, i2, i3⟩ := readV_torn l (n + 1) (nextV r n last) (k - (13 + r.data.length + 4)) (fun r hr => h r (by simp [hr])) (by omega) (by omega)
      obtain ⟨w1, w2⟩ := layV_why hr (n := n) (last := last) (by omega) ((laidV l (n + 1) (nextV r n last)).take (k - (13 + r.data.length + 4)))
      obtain ⟨q1, q2, q3, q4, q5⟩ := layV_end hr (n := n) (last := last) (by omega) ((laidV l (n + 1) (nextV r n last)).take (k - (13 + r.data.length + 4)))
      have hN : linkV last (layB r n last) = nextV r n last := rfl
      rw [et, readV_rec w1, w2, q1, q3, q5, hN, hcn, List.take_succ_cons]
      have e2 : (laidV (r :: l.take (cntV l (k - (13 + r.data.length + 4)))) n last).length = 13 + r.data.length + 4 + (laidV (l.take (cntV l (k - (13 + r.data.length + 4)))) (n + 1) (nextV r n last)).length := by
        show (layV r n last ++ _).length = _; rw [List.length_append, hl]
      rw [e2]
      refine ⟨congrArg _ i1, i2.trans ?_, ?_⟩
      · by_cases hq : k - (13 + r.data.length + 4) = (laidV (l.take (cntV l (k - (13 + r.data.length + 4)))) (n + 1) (nextV r n last)).length
        · rw [if_pos hq, if_pos (by omega)]
        · rw [if_neg hq, if_neg (by omega)]
      · show _ + _ = _
        rw [i3]; omega
    · have hcn : cntV (r :: l) k = 0 := by show (if _ then _ else _) = _; rw [if_neg hc]
      have et : (laidV (r :: l) n last).take k = (layV r n last).take k := by rw [e, List.take_append_of_le_length (by omega)]
      rw [et, hcn, List.take_zero]
      show _ ∧ _ = (if k = 0 then 0 else 2) ∧ _ = 0
      by_cases h0 : k = 0
      · subst h0; rw [List.take_zero, readV_nil]; exact ⟨rfl, rfl, rfl⟩
      · have hw := whyV_begun hr (n := n) (last := last) (by omega) (show k < 13 + r.data.length + 4 by omega)
        rw [readV_why (fun hn => by have := congrArg List.length hn; rw [List.length_take, hl] at this; simp at this; omega) (by rw [hw]; decide), hw, if_neg h0]
        exact ⟨rfl, rfl, rfl⟩

/-! one byte turned -/
theorem zip_zeros : ∀ (l : List Nat), List.zipWith (· ^^^ ·) l (List.replicate l.length 0) = l
  | [] => rfl
  | c :: l => by rw [List.length_cons, List.replicate_succ, List.zipWith_cons_cons, zip_zeros l, Nat.xor_zero]
def oneAt (j L mask : Nat) : List Nat := (List.replicate L 0).set j mask
theorem zip_one : ∀ (l : List Nat) (j mask : Nat), j < l.length → List.zipWith (· ^^^ ·) l (oneAt j l.length mask) = l.set j (l.getD j 0 ^^^ mask)
  | [], j, _, h => by simp at h
  | c :: l, 0, mask, _ => by
    unfold oneAt
    rw [List.length_cons, List.replicate_succ, List.set_cons_zero, List.zipWith_cons_cons, zip_zeros]; rfl
  | c :: l, j + 1, mask, h => by
    have := zip_one l j mask (by simpa using h)
    unfold oneAt at this ⊢
    rw [List.length_cons, List.replicate_succ, List.set_cons_succ, List.zipWith_cons_cons, this, Nat.xor_zero]; rfl
theorem oneAt_burst {j L mask : Nat} (hj : j < L) (hL : 4 ≤ L) (hm : mask ≠ 0) (hm2 : mask < 256) :
    ∃ (p q : Nat) (e : List Nat), Bytes e ∧ e.length = 4 ∧ e ≠ List.replicate 4 0 ∧ L = p + 4 + q ∧ oneAt j L mask = List.replicate p 0 ++ e ++ List.replicate q 0 := by
  obtain ⟨p, hp⟩ : ∃ p, p = min j (L - 4) := ⟨_, rfl⟩
  refine ⟨p, L - 4 - p, oneAt (j - p) 4 mask, ?_, by unfold oneAt; simp, ?_, by omega, ?_⟩
  · intro c hc
    rcases List.mem_or_eq_of_mem_set hc with h | rfl
    · rw [List.eq_of_mem_replicate h]; decide
    · exact hm2
  · intro h
    have h2 := congrArg (fun l => l.getD (j - p) 0) h
    have hlt : j - p < 4 := by omega
    unfold oneAt at h2
    simp only [List.getD] at h2
    rw [List.getElem?_set_self (by simpa using hlt), List.getElem?_replicate, if_pos hlt] at h2
    exact hm h2
  · unfold oneAt
    have e1 : List.replicate L 0 = List.replicate p 0 ++ (List.replicate 4 0 ++ List.replicate (L - 4 - p) 0) := by
      rw [List.replicate_append_replicate, List.replicate_append_replicate]; congr 1; omega
    rw [e1, List.set_append_right _ _ (by rw [List.length_replicate]; omega), List.length_replicate, List.set_append_left _ _ (by rw [List.length_replicate]; omega), List.append_assoc]
/-- bytes with their sum behind them, one of them turned: the sum is wrong -/
theorem crc_turned {b : List Nat} {j mask L : Nat} (hb : Bytes b) (hj : j < b.length) (hL : b.length = L + 4) (hm : mask ≠ 0) (hm2 : mask < 256) (hs : crcOf (b.take L) = leVal (b.drop L)) :
    crcOf ((b.set j (b.getD j 0 ^^^ mask)).take L) ≠ leVal ((b.set j (b.getD j 0 ^^^ mask)).drop L) := by
  obtain ⟨p, q, e, he, h4, hne, hl, ho⟩ := oneAt_burst hj (by omega) hm hm2
  have hpq : p + q = L := by omega
  have := crc_spoilt (p := p) (q := q) hb he h4 hne hl (by rw [hpq]; exact hs)
  rw [← ho, zip_one b j mask hj, hpq] at this
  exact this
theorem set_app_l {x y : List Nat} {j v : Nat} (h : j < x.length) : (x ++ y).set j v = x.set j v ++ y := List.set_append_left _ _ h
/-- bytes, one of them turned -/
def turnV (b : List Nat) (j mask : Nat) : List Nat := b.set j (b.getD j 0 ^^^ mask)
theorem turnV_len (b : List Nat) (j mask : Nat) : (turnV b j mask).length = b.length := List.length_set
theorem turnV_app {x y : List Nat} {j mask : Nat} (h : j < x.length) : turnV (x ++ y) j mask = turnV x j mask ++ y := by
  unfold turnV; rw [getD_app h, List.set_append_left _ _ h]
theorem turnV_app_r {x y : List Nat} {j mask : Nat} (h : x.length ≤ j) : turnV (x ++ y) j mask = x ++ turnV y (j - x.length) mask := by
  unfold turnV
  rw [List.set_append_right _ _ h]
  congr 2
  simp [List.getD, List.getElem?_append_right h]
/-- a sum of four bytes behind bytes, all behind a link -/
theorem link_turned {last k j mask : Nat} {c : List Nat} (hc : Bytes c) (hl : c.length = k + 4) (hj : j < c.length) (hm : mask ≠ 0) (hm2 : mask < 256) (hs : linkV last (c.take k) = leVal (c.drop k)) :
    linkV last ((turnV c j mask).take k) ≠ leVal ((turnV c j mask).drop k) := by
  have hb : Bytes (leBytes 4 last ++ c) := (leBytes_bytes _ _).append hc
  have h4 := leBytes_len 4 last
  have hx : ∀ d : List Nat, (leBytes 4 last ++ d).take (4 + k) = leBytes 4 last ++ d.take k ∧ (leBytes 4 last ++ d).drop (4 + k) = d.drop k := fun d => by
    refine ⟨?_, ?_⟩
    · rw [List.take_append, h4, List.take_of_length_le (by omega), Nat.add_sub_cancel_left]
    · rw [List.drop_append, h4, List.drop_of_length_le (by omega), Nat.add_sub_cancel_left, List.nil_append]
  have key := crc_turned (b := leBytes 4 last ++ c) (j := 4 + j) (mask := mask) (L := 4 + k) hb (by rw [List.length_append, h4]; omega) (by rw [List.length_append, h4]; omega) hm hm2 (by
    rw [(hx c).1, (hx c).2]; exact hs)
  have e : (leBytes 4 last ++ c).set (4 + j) ((leBytes 4 last ++ c).getD (4 + j) 0 ^^^ mask) = leBytes 4 last ++ turnV c j mask := by
    have := turnV_app_r (x := leBytes 4 last) (y := c) (j := 4 + j) (mask := mask) (by omega)
    rw [h4, Nat.add_sub_cancel_left] at this
    exact this
  rw [e, (hx _).1, (hx _).2] at key
  exact key
theorem whyV_sums {b : List Nat} {n last : Nat} (h : whyV F b n last = 0) : 13 ≤ b.length ∧ at4 b 9 = linkV last (b.take 9) ∧ endV b + 4 ≤ b.length ∧ at4 b (endV b) = linkV last (b.take (endV b)) ∧ at4 b 1 = n := by
  unfold whyV at h
  by_cases c1 : b.length < 13
  · rw [if_pos c1] at h; cases h
  rw [if_neg c1] at h
  by_cases c2 : at4 b 9 ≠ linkV last (b.take 9)
  · rw [if_pos c2] at h; cases h
  rw [if_neg c2] at h
  by_cases c3 : b.getD 0 0 < 1 ∨ 3 < b.getD 0 0 ∨ at4 b 1 ≠ n ∨ 1048576 < at4 b 5 ∨ 1048576 ≤ n
  · rw [if_pos c3] at h; cases h
  rw [if_neg c3] at h
  by_cases c4 : b.length < endV b + 4
  · rw [if_pos c4] at h; cases h
  rw [if_neg c4] at h
  by_cases c5 : at4 b (endV b) ≠ linkV last (b.take (endV b))
  · rw [if_pos c5] at h; cases h
  simp only [ne_eq, Decidable.not_not] at c2 c5
  exact ⟨by omega, c2, by omega, c5, by omega⟩
theorem whyV_turned {r : Rec} (h : r.Ok F) {n last j mask : Nat} (hn : n < 1048576) (hj : j < 13 + r.data.length + 4) (hm : mask ≠ 0) (hm2 : mask < 256) (z : List Nat) : whyV F (turnV (layV r n last ++ z) j mask) n last ≠ 0 := by
  intro hw
  obtain ⟨w1, w2, w3, w4, _⟩ := whyV_sums hw
  have hl := layV_len r n last
  have hB := layV_bytes h n last
  obtain ⟨h1, h2, h3⟩ := h.parts
  obtain ⟨p1, p2, p3, p4, p5⟩ := layV_parts h (n := n) (last := last) (by omega) z
  obtain ⟨q1, q2, q3, q4, q5⟩ := layV_end h (n := n) (last := last) (by omega) z
  have key : ∀ k, j < k + 4 → k + 4 ≤ 13 + r.data.length + 4 → linkV last ((layV r n last ++ z).take k) = at4 (layV r n last ++ z) k → linkV last ((turnV (layV r n last ++ z) j mask).take k) ≠ at4 (turnV (layV r n last ++ z) j mask) k := by
    intro k hjk hk hs
    obtain ⟨c, hc⟩ : ∃ c, c = (layV r n last).take (k + 4) := ⟨_, rfl⟩
    obtain ⟨y, hy⟩ : ∃ y, y = (layV r n last).drop (k + 4) ++ z := ⟨_, rfl⟩
    have hcl : c.length = k + 4 := by rw [hc, List.length_take]; omega
    have e : layV r n last ++ z = c ++ y := by rw [hc, hy, ← List.append_assoc, List.take_append_drop]
    rw [e] at hs ⊢
    rw [turnV_app (by omega)]
    have x1 : ∀ (c : List Nat), c.length = k + 4 → (c ++ y).take k = c.take k ∧ at4 (c ++ y) k = leVal (c.drop k) := fun c hcl => by
      refine ⟨List.take_append_of_le_length (by omega), ?_⟩
      unfold at4
      rw [List.drop_append_of_le_length (by omega), List.take_append_of_le_length (by rw [List.length_drop]; omega), List.take_of_length_le (by rw [List.length_drop]; omega)]
    rw [(x1 c hcl).1, (x1 c hcl).2] at hs
    have hcl' : (turnV c j mask).length = k + 4 := by rw [turnV_len, hcl]
    rw [(x1 _ hcl').1, (x1 _ hcl').2]
    exact link_turned (by rw [hc]; exact hB.take _) hcl (by omega) hm hm2 hs
  by_cases c1 : j < 13
  · exact key 9 (by omega) (by omega) (by rw [p1, p2]) w2.symm
  · have e5 : at4 (turnV (layV r n last ++ z) j mask) 5 = r.data.length := by
      rw [← p5]
      have e : layV r n last ++ z = (layV r n last).take 13 ++ ((layV r n last).drop 13 ++ z) := by rw [← List.append_assoc, List.take_append_drop]
      have hl13 : ((layV r n last).take 13).length = 13 := by rw [List.length_take]; omega
      rw [e, turnV_app_r (by omega)]
      unfold at4
      rw [List.drop_append_of_le_length (by omega), List.drop_append_of_le_length (by omega), List.take_append_of_le_length (by rw [List.length_drop]; omega), List.take_append_of_le_length (by rw [List.length_drop]; omega)]
    have eE : endV (turnV (layV r n last ++ z) j mask) = 13 + r.data.length := by unfold endV; rw [e5]
    rw [eE] at w4
    exact key (13 + r.data.length) (by omega) (by omega) (by rw [q2, q3]; rfl) w4.symm
theorem whyV_number {r : Rec} (h : r.Ok F) {k n last last' : Nat} (hk : k < 1048576) (hne : k ≠ n) (z : List Nat) : whyV F (layV r k last' ++ z) n last ≠ 0 := by
  intro hw
  obtain ⟨_, _, _, _, w5⟩ := whyV_sums hw
  rw [(layV_parts h (n := k) (last := last') (by omega) z).2.2.2.1] at w5
  exact hne w5
/-- records that are right, and then what is none -/
theorem readV_stop {l : List Rec} {z : List Nat} (h : ∀ r ∈ l, r.Ok F) (hn : l.length ≤ 1048576) (hz : z ≠ []) (hw : whyV F z l.length (lastV l 0 startV) ≠ 0) :
    readV F (laidV l 0 startV ++ z) 0 startV = (l, whyV F z l.length (lastV l 0 startV), (laidV l 0 startV).length, lastV l 0 startV) := by
  rw [readV_laid l 0 startV z h (by omega), Nat.zero_add, readV_why hz hw, List.append_nil, Nat.zero_add]
theorem laid_split (l : List Rec) (i n last : Nat) : laidV l n last = laidV (l.take i) n last ++ laidV (l.drop i) (n + (l.take i).length) (lastV (l.take i) n last) := by
  rw [← laidV_app, List.take_append_drop]
theorem laid_cons (r : Rec) (l : List Rec) (n last : Nat) : laidV (r :: l) n last = layV r n last ++ laidV l (n + 1) (nextV r n last) := rfl
/-- a record's place in a log -/
theorem cntV_split : ∀ (l : List Rec) (n last k : Nat), k < (laidV l n last).length → cntV l k < l.length ∧ (laidV (l.take (cntV l k)) n last).length ≤ k ∧ (∀ h : cntV l k < l.length, k < (laidV (l.take (cntV l k)) n last).length + (13 + (l[cntV l k]).data.length + 4))
  | [], n, last, k, hk => by simp [laidV] at hk
  | r :: l, n, last, k, hk => by
    have hl := layV_len r n last
    rw [laid_cons, List.length_append, hl] at hk
    by_cases hc : 13 + r.data.length + 4 ≤ k
    · have hcn : cntV (r :: l) k = cntV l (k - (13 + r.data.length + 4)) + 1 := by show (if _ then _ else _) = _; rw [if_pos hc]
      obtain ⟨i1, i2, i3⟩ := cntV_split l (n + 1) (nextV r n last) (k - (13 + r.data.length + 4)) (by omega)
      have hx := i3 i1
      refine ⟨by rw [hcn, List.length_cons]; omega, ?_, ?_⟩
      · rw [hcn, List.take_succ_cons, laid_cons, List.length_append, hl]; omega
      · intro h
        have e : (r :: l)[cntV (r :: l) k] = l[cntV l (k - (13 + r.data.length + 4))] := by simp only [hcn, List.getElem_cons_succ]
        rw [e, hcn, List.take_succ_cons, laid_cons, List.length_append, hl]; omega
    · have hcn : cntV (r :: l) k = 0 := by show (if _ then _ else _) = _; rw [if_neg hc]
      refine ⟨by rw [hcn]; simp, by rw [hcn]; exact Nat.zero_le _, fun h => ?_⟩
      have e : (r :: l)[cntV (r :: l) k] = r := by simp only [hcn, List.getElem_cons_zero]
      rw [e]
      omega
/-- one byte turned: the records ahead of it are read, and there it ends -/
theorem readV_turned {l : List Rec} (h : ∀ r ∈ l, r.Ok F) (hn : l.length ≤ 1048576) {k mask : Nat} (hk : k < (laidV l 0 startV).length) (hm : mask ≠ 0) (hm2 : mask < 256) :
    (readV F (turnV (laidV l 0 startV) k mask) 0 startV).1 = l.take (cntV l k) ∧ (readV F (turnV (laidV l 0 startV) k mask) 0 startV).2.1 ≠ 0 ∧ (readV F (turnV (laidV l 0 startV) k mask) 0 startV).2.2.1 = (laidV (l.take (cntV l k)) 0 startV).length := by
  obtain ⟨c1, c2, c3⟩ := cntV_split l 0 startV k hk
  have c3 := c3 c1
  obtain ⟨i, hi⟩ : ∃ i, i = cntV l k := ⟨_, rfl⟩
  simp only [← hi] at c1 c2 c3 ⊢
  have htl : (l.take i).length = i := by rw [List.length_take]; omega
  have hd : l.drop i = l[i] :: l.drop (i + 1) := List.drop_eq_getElem_cons c1
  have hr := h l[i] (List.getElem_mem c1)
  have e : turnV (laidV l 0 startV) k mask = laidV (l.take i) 0 startV ++ turnV (layV l[i] i (lastV (l.take i) 0 startV) ++ laidV (l.drop (i + 1)) (i + 1) (nextV l[i] i (lastV (l.take i) 0 startV))) (k - (laidV (l.take i) 0 startV).length) mask := by
    rw [laid_split l i, turnV_app_r c2, hd, laid_cons, htl, Nat.zero_add]
  have hw := whyV_turned hr (n := i) (last := lastV (l.take i) 0 startV) (j := k - (laidV (l.take i) 0 startV).length) (by omega) (by omega) hm hm2 (laidV (l.drop (i + 1)) (i + 1) (nextV l[i] i (lastV (l.take i) 0 startV)))
  have hs := readV_stop (l := l.take i) (z := turnV (layV l[i] i (lastV (l.take i) 0 startV) ++ laidV (l.drop (i + 1)) (i + 1) (nextV l[i] i (lastV (l.take i) 0 startV))) (k - (laidV (l.take i) 0 startV).length) mask)
    (fun r hr => h r (List.mem_of_mem_take hr)) (by omega) (fun hz => by have := congrArg List.length hz; rw [turnV_len, List.length_append, layV_len] at this; simp at this) (by rw [htl]; exact hw)
  rw [e, hs, htl]
  exact ⟨rfl, hw, rfl⟩
/-- a record with another number than is due -/
theorem readV_chained {l : List Rec} {r : Rec} {k last' : Nat} (h : ∀ r ∈ l, r.Ok F) (hr : r.Ok F) (hn : l.length ≤ 1048576) (hk : k < 1048576) (hne : k ≠ l.length) (z : List Nat) :
    (readV F (laidV l 0 startV ++ (layV r k last' ++ z)) 0 startV).2.1 ≠ 0 := by
  have hw := whyV_number hr (k := k) (n := l.length) (last := lastV l 0 startV) (last' := last') hk hne z
  rw [readV_stop h hn (fun hz => by have := congrArg List.length hz; rw [List.length_append, layV_len] at this; simp at this) hw]
  exact hw
end Go.Proofs.YtpmjlaiafgbjgaaDoor
end

section
namespace Go.Proofs.YtpmjlaiafgbjgaaDoor
open Go.RowKit

theorem magic_str : strB magicV = ⟨#[66, 73, 78, 76, 79, 71, 49, 10]⟩ := by kernel_rfl
theorem magic_list : (strB magicV).toList = [66, 73, 78, 76, 79, 71, 49, 10] := by rw [magic_str]; simp
theorem magic_bytes : Bytes magicV := by intro x hx; revert x; decide
theorem Bytes.short {l : List Nat} (h : Bytes l) (n : Nat) : Bytes (l.take n) := h.take n
/-- a reader that has read a log to its end -/
def ReadP (w : World) (bv : Value) (b : List Nat) (w' : World) (rb : Nat) : Prop := ∃ lv, w.heap.size ≤ rb ∧ NxC w' rb bv (8 + (readV pf (b.drop 8) 0 startV).2.2.1) (readV pf (b.drop 8) 0 startV).2.2.2 lv ∧ RecsO w' w.heap.size lv ((readV pf (b.drop 8) 0 startV).1.map Rec.i) ∧ Within w w'
/-- what is at hand at each turn: so many records are read, the rest is to be read -/
def ReadRel (w : World) (B rb : Nat) (bv : Value) (b : List Nat) (wr : World) : Prop := ∃ (a k : Nat) (rs : List Rec) (lv : Value), NxC wr rb bv a k lv ∧ RecsO wr B lv (rs.map Rec.i) ∧ Within w wr ∧ B ≤ wr.heap.size ∧ a ≤ b.length ∧ 8 ≤ a ∧ k < 4294967296 ∧ rs.length ≤ 1048576 ∧
  readV pf (b.drop 8) 0 startV = (rs ++ (readV pf (b.drop a) rs.length k).1, (readV pf (b.drop a) rs.length k).2.1, (a - 8) + (readV pf (b.drop a) rs.length k).2.2.1, (readV pf (b.drop a) rs.length k).2.2.2)
theorem ReadRel.start {w W : World} {B rb : Nat} {bv : Value} {b : List Nat} (h8 : 8 ≤ b.length) (h : NxC W rb bv 8 startV (.slice none 0 0)) (hW : Within w W) (hB : B ≤ W.heap.size) : ReadRel w B rb bv b W :=
  ⟨8, startV, [], _, h, RecsO.nil_ _ _, hW, hB, h8, Nat.le_refl _, startV_lt, by simp, by simp⟩
/-- a record more -/
theorem ReadRel.more {w wr w' : World} {B rb a k : Nat} {rs : List Rec} {bv lv : Value} {b : List Nat} (hb : Bytes b) (hwr : Within w wr) (hw : w.heap.size ≤ rb) (hrB : rb < B) (ha : a ≤ b.length) (h8 : 8 ≤ a)
    (hv : readV pf (b.drop 8) 0 startV = (rs ++ (readV pf (b.drop a) rs.length k).1, (readV pf (b.drop a) rs.length k).2.1, (a - 8) + (readV pf (b.drop a) rs.length k).2.2.1, (readV pf (b.drop a) rs.length k).2.2.2))
    (hB : B ≤ wr.heap.size) (hy : whyV pf (b.drop a) rs.length k = 0) (h1 : NxC w' rb bv (a + (endV (b.drop a) + 4)) (linkV k ((b.drop a).take (endV (b.drop a)))) lv) (h2 : RecsO w' B lv ((rs ++ [recV (b.drop a)]).map Rec.i)) (h3 : ButS (fun j => j = rb ∨ B ≤ j) wr w') :
    ReadRel w B rb bv b w' ∧ a + (endV (b.drop a) + 4) ≤ b.length := by
  obtain ⟨s1, s2, s3, s4⟩ := whyV_sums hy
  have hn : rs.length < 1048576 := by
    by_cases h : 1048576 ≤ rs.length
    · have := why_form (b := b.drop a) (n := rs.length) (k := k) (by omega) (fun e => e s2) (.inr (.inr (.inr (.inr h))))
      rw [this] at hy; cases hy
    · omega
  have hl : (b.drop a).length = b.length - a := List.length_drop
  refine ⟨⟨a + (endV (b.drop a) + 4), _, rs ++ [recV (b.drop a)], lv, h1, h2, hwr.asides h3 (fun j hj => by rcases hj with rfl | hj; exact hw; omega), Nat.le_trans hB h3.size, by omega, by omega, linkV_lt ((hb.drop a).take _), by simp; omega, ?_⟩, by omega⟩
  rw [hv, readV_rec hy, List.drop_drop, List.length_append]
  simp only [List.append_assoc, List.singleton_append, List.length_cons, List.length_nil, Prod.mk.injEq, true_and]
  have e : a + (endV (b.drop a) + 4) - 8 = a - 8 + (endV (b.drop a) + 4) := by omega
  rw [e]
  refine ⟨?_, trivial⟩
  rw [Nat.zero_add]
  omega

theorem NextPost.split {w w' : World} {rb B : Nat} {bv : Value} {left : List Nat} {a k : Nat} {rs : List Rec} {e : Ending} (h : NextPost w rb B bv left a k rs e w') :
    (∃ y : Nat, readV pf left rs.length k = ([], y, 0, k) ∧ e = .returned (.tuple #[.int .i64 (y : Int), .bool false]) ∧ Within w w') ∨
    (whyV pf left rs.length k = 0 ∧ e = .returned (.tuple #[.int .i64 0, .bool true]) ∧ ∃ lv, NxC w' rb bv (a + (endV left + 4)) (linkV k (left.take (endV left))) lv ∧ RecsO w' B lv ((rs ++ [recV left]).map Rec.i) ∧ ButS (fun j => j = rb ∨ B ≤ j) w w') := by
  rcases h with ⟨rfl, h1, h2⟩ | ⟨h0, h1, h2, h3⟩ | h
  · exact .inl ⟨0, readV_nil _ _, h1, h2⟩
  · exact .inl ⟨_, readV_why h0 h1, h2, h3⟩
  · exact .inr h
theorem NxC.aside {w : World} {rb : Nat} {bv : Value} {a k : Nat} {lv : Value} (h : NxC w rb bv a k lv) {p : Addr} (hp : rb ≠ p.block) (u : Value) : NxC (w.setCell p u) rb bv a k lv := by
  obtain ⟨h0, h1, h2, h3, h4⟩ := h
  have e : (w.setCell p u).heap[rb]? = w.heap[rb]? := Below.heap_setCell _ _ _ _ hp
  exact ⟨(World.cell?_of_block e).trans h0, (World.cell?_of_block e).trans h1, (World.cell?_of_block e).trans h2, (World.cell?_of_block e).trans h3, fun o => (World.frozen?_of_block e).trans (h4 o)⟩
theorem ReadP.done {w w' : World} {B rb a k y : Nat} {rs : List Rec} {bv lv : Value} {b : List Nat}
    (hv : readV pf (b.drop 8) 0 startV = (rs ++ (readV pf (b.drop a) rs.length k).1, (readV pf (b.drop a) rs.length k).2.1, (a - 8) + (readV pf (b.drop a) rs.length k).2.2.1, (readV pf (b.drop a) rs.length k).2.2.2))
    (hy : readV pf (b.drop a) rs.length k = ([], y, 0, k)) (h8 : 8 ≤ a) (hC : NxC w' rb bv a k lv) (hL : RecsO w' B lv (rs.map Rec.i)) (hw : w.heap.size ≤ rb) (hB : w.heap.size ≤ B) (hin : Within w w') :
    (readV pf (b.drop 8) 0 startV).2.1 = y ∧ 8 + (readV pf (b.drop 8) 0 startV).2.2.1 = a ∧ ReadP w bv b w' rb := by
  rw [hy] at hv
  have e : 8 + (a - 8 + 0) = a := by omega
  unfold ReadP
  rw [hv]
  simp only [e, List.append_nil]
  exact ⟨trivial, trivial, lv, hw, hC, hL.less hB, hin⟩

set_option maxRecDepth 100000 in
set_option maxHeartbeats 1000000 in
theorem read_any (A : Option Addr) (c : Nat) (b : List Nat) (hb : Bytes b) (hlen : b.length ≤ 140737488355328) (hc : b.length ≤ c) (w : World) (hT : FmS w) (hr : SlAt w A (u8v b)) : Calls Tryd.prog 41 #[.slice A b.length c] w fun e w' => (b.take 8 ≠ magicV ∧ e = .returned (.tuple #[.pointer none, .agg #[.int .i64 1, .int .i64 0]]) ∧ Within w w') ∨ (b.take 8 = magicV ∧ ∃ rb, e = .returned (.tuple #[.pointer (some ⟨rb, 0, none⟩), .agg #[.int .i64 ((readV pf (b.drop 8) 0 startV).2.1 : Int), .int .i64 ((8 + (readV pf (b.drop 8) 0 startV).2.2.1 : Nat) : Int)]]) ∧ ReadP w (.slice A b.length c) b w' rb) := by
  have hr8 := hr.take 8
  have HB := Lib.hid hb; have HT := Lib.hid hT; have HR := Lib.hid hr; clear hb hT hr
  by_cases h8 : b.length < 8
  · have HN : Hid (b.take 8 ≠ magicV) := Lib.hid (fun h => by have := congrArg List.length h; rw [List.length_take] at this; have e : magicV.length = 8 := rfl; omega)
    have v0 : decide ((b.length : Int) < 8) = true := decide_eq_true (by omega)
    clear h8 hr8
    go_enter Tryd.func41, Tryd.ntmps41
    go_wp2
    refine wp_scope_straight ?_
    go_wp2
    rw [Exit.noGoto_ret]
    refine bodyPost_ret (v := .tuple #[.pointer none, .agg #[.int .i64 1, .int .i64 0]]) (by simp [results, Tryd.results41, go_sem]) rfl (.inl ⟨HN.out, rfl, ?_⟩)
    exact (by repeat (first | with_reducible exact Within.refl _ | with_reducible assumption | with_reducible refine Within.alloc ?_ _ | with_reducible refine Within.drew ?_ | with_reducible refine Within.drewN ?_ _ | with_reducible refine Within.setCell ?_ (by first | (simp; done) | (simp; omega)) _ | with_reducible refine Within.trans ?_ (by assumption)))
  have l8 : (b.take 8).length = 8 := by rw [List.length_take]; omega
  obtain ⟨s, hs⟩ : ∃ s, s = strB (b.take 8) := ⟨_, rfl⟩
  have ST : Hid (∀ W, SlAt W A (u8v (b.take 8)) → (convert 22 9 (.slice A 8 c)).run Tryd.prog W = .ok (.string s) W) := Lib.hid (fun W h => by rw [hs]; have := run_str A c (b.take 8) W h; rwa [l8] at this)
  have HR8 : Hid (SlAt w A (u8v (b.take 8))) := Lib.hid (by unfold u8v at hr8 ⊢; rwa [← List.map_take] at hr8)
  clear hr8
  have v0 : decide ((b.length : Int) < 8) = false := decide_eq_false (by omega)
  have b8 : (8 : Int) ≤ (b.length : Int) := by omega
  have c8 : (8 : Int) ≤ (c : Int) := by omega
  have n8 : 8 ≤ b.length := by omega
  have m8 : 8 ≤ c := by omega
  have bc : (b.length : Int) ≤ (c : Int) := by omega
  have st0 := ST.out _ (HR8.out.of ((Within.refl w).alloc (.cells #[.int .i64 0, .int .i64 0] 26)))
  clear h8
  by_cases hm : b.take 8 = magicV
  · have hne : (s.toList == [66, 73, 78, 76, 79, 71, 49, 10]) = true := by rw [← magic_list, hs, hm]; simp
    have HM := Lib.hid hm; clear hm hs
    go_enter Tryd.func41, Tryd.ntmps41
    go_wp2
    refine wp_scope_straight ?_
    go_wp2_with fail
    refine (begin_any _).mono ?_; rintro e1 w1 ⟨rfl, h1⟩
    go_wp2_with fail
    go_step3
    go_wp2_with fail
    obtain ⟨ad, rfl, _, _⟩ := SlAt.at (l := b) (k := 0) (by exact HR.out) (by omega)
    obtain ⟨WT, hWT⟩ : ∃ WT, WT = w.alloc (.cells #[.int .i64 0, .int .i64 0] 26) := ⟨_, rfl⟩
    have q0 : WT.cell? ⟨w.heap.size, 0, none⟩ = some (.int .i64 0) := by rw [hWT]; simp
    have q1 : WT.cell? ⟨w.heap.size, 1, none⟩ = some (.int .i64 0) := by rw [hWT]; simp
    have qf : ∀ o, WT.frozen? ⟨w.heap.size, o, none⟩ = false := fun o => by rw [hWT]; simp
    have hWW0 : Within w WT := by rw [hWT]; exact (Within.refl w).alloc _
    have qs : w.heap.size < WT.heap.size := by rw [hWT]; simp
    rw [← hWT] at h1
    clear hWT
    obtain ⟨W1, hWW⟩ : ∃ W1, W1 = w1.alloc (.cells #[.slice (some ad) b.length c, .int .i64 8, .int .u32 (startV : Int), .slice none 0 0] 92) := ⟨_, rfl⟩
    have HNX : NxC W1 w1.heap.size (.slice (some ad) b.length c) 8 startV (.slice none 0 0) := by rw [hWW]; exact ⟨by simp, by simp, by simp, by simp, fun o => by simp⟩
    have HW1 : Within WT W1 := by rw [hWW]; exact h1.alloc _
    have hS1 : W1.heap.size = w1.heap.size + 1 := by rw [hWW]; simp
    rw [← hWW]
    clear hWW
    obtain ⟨rb, hrb⟩ : ∃ rb, rb = w1.heap.size := ⟨_, rfl⟩
    rw [← hrb] at HNX hS1 ⊢
    have hwrb : WT.heap.size ≤ rb := by rw [hrb]; exact h1.size
    have HREL := Lib.hid (ReadRel.start (w := WT) (B := rb + 1) n8 HNX HW1 (by omega))
    have HWW0 := Lib.hid hWW0; have QF := Lib.hid qf
    clear h1 HW1 hrb HNX hWW0 qf st0
    go_loopw [5] (fun _ wr => ReadRel WT (rb + 1) rb (.slice (some ad) b.length c) b wr) (fun _ wr => b.length - (intOf ((wr.cell? ⟨rb, 1, none⟩).getD undef)).toNat)
    case atStart => exact HREL.out
    case round =>
      obtain ⟨a, k, rs, lv, hC, hL, hin, hB, ha, ha8, hk, hrs, hv⟩ := hrel
      have p1 := hC.2.1
      have NXT := Lib.hid (next_any rb (rb + 1) ad c b HB.out a k rs hlen hc ha hk hrs (by omega) lv _ hB (HT.out.of (HWW0.out.trans hin)) hC hL (HR.out.of (HWW0.out.trans hin)))
      have HC := Lib.hid hC; have HL := Lib.hid hL; have HIN := Lib.hid hin; have HV := Lib.hid hv; clear hC hL hin hv
      go_wp2_with fail
      refine NXT.out.mono ?_; rintro e4 w4 hP
      clear NXT
      rcases hP.split with ⟨y, hy, rfl, h4⟩ | ⟨hy, rfl, lv', hC', hL', hS'⟩
      · clear hP
        have p1 := (h4.cells rb 1 (HC.out.lt)).trans p1
        have hrb4 := Nat.lt_of_lt_of_le HC.out.lt h4.size
        have q0 := ((HIN.out.trans h4).cells _ 0 qs).trans q0
        have q1 := ((HIN.out.trans h4).cells _ 1 qs).trans q1
        have qs4 := Nat.lt_of_lt_of_le qs (HIN.out.trans h4).size
        have q2 := ((HIN.out.trans h4).frozens _ 0 qs).trans (QF.out 0)
        have q3 := ((HIN.out.trans h4).frozens _ 1 qs).trans (QF.out 1)
        have HY := Lib.hid hy; have H4 := Lib.hid h4; clear hy h4
        go_wp2_with fail
        refine wp_region_schG (fun W => W.cell? ⟨rb, 1, none⟩ = some (.int .i64 (a : Int)) ∧ rb < W.heap.size ∧ W.cell? ⟨w.heap.size, 0, none⟩ = some (.int .i64 0) ∧ W.cell? ⟨w.heap.size, 1, none⟩ = some (.int .i64 0) ∧ w.heap.size < W.heap.size ∧ W.frozen? ⟨w.heap.size, 0, none⟩ = false ∧ W.frozen? ⟨w.heap.size, 1, none⟩ = false ∧ Within w4 W) 8 (.firm 0 (.firm 1 (.firm 2 (.firm 3 (.firm 4 (.firm 5 (.firm 6 (.firm 7 (.one 8 .nil))))))))) (by kernel_rfl) (by kernel_rfl) ⟨p1, hrb4, q0, q1, qs4, q2, q3, Within.refl _⟩ ?_
        rintro w0 ⟨p1, hrb4, q0, q1, qs4, q2, q3, hw0⟩
        try simp only [Act.put, List.setIfInBounds_toArray, List.set_cons_zero, List.set_cons_succ]
        iterate 8
          apply sch_firm rfl rfl (by repeat (first | with_reducible exact Within.refl _ | with_reducible assumption | with_reducible refine Within.alloc ?_ _ | with_reducible refine Within.drew ?_ | with_reducible refine Within.drewN ?_ _ | with_reducible refine Within.setCell ?_ (by first | (simp; done) | (simp; omega)) _ | with_reducible refine Within.trans ?_ (by assumption)))
          · intro wq hq
            have hcq := hq.cells
            clear hq
            go_simp
            rfl
          try simp only [Act.put, List.setIfInBounds_toArray, List.set_cons_zero, List.set_cons_succ]
        refine sch_one rfl rfl (fun K hK => ?_)
        go_simp
        refine hK _ _ (fun h => absurd h (by decide)) ?_
        clear hK K
        try simp only [Act.put, List.setIfInBounds_toArray, List.set_cons_zero, List.set_cons_succ]
        refine sch_nil ?_
        go_wp2
        have hX := H4.out.trans hw0
        have hXT := HIN.out.trans hX
        have hd : ∀ (V : World), Within V V.drew := fun V => (Within.refl V).drew
        have hC9 := (((HC.out.of hX).aside (p := ⟨w.heap.size, 0, none⟩) (by show rb ≠ w.heap.size; omega) (.int .i64 (y : Int))).aside (p := ⟨w.heap.size, 1, none⟩) (by show rb ≠ w.heap.size; omega) (.int .i64 (a : Int))).of (hd _)
        have hK9 : But w.heap.size w0 (((w0.setCell ⟨w.heap.size, 0, none⟩ (.int .i64 (y : Int))).setCell ⟨w.heap.size, 1, none⟩ (.int .i64 (a : Int))).drew) := (((But.refl w.heap.size w0).set (.inl rfl) _).set (.inl rfl) _).drew
        have hL9 := (HL.out.of hX).but hK9 (by omega)
        have hI9 : Within w (((w0.setCell ⟨w.heap.size, 0, none⟩ (.int .i64 (y : Int))).setCell ⟨w.heap.size, 1, none⟩ (.int .i64 (a : Int))).drew) := ((((HWW0.out.trans hXT).setCell (Nat.le_refl _) _).setCell (Nat.le_refl _) _).drew)
        obtain ⟨e1, e2, hP9⟩ := ReadP.done (w := w) HV.out HY.out ha8 hC9 hL9 (by omega) (by omega) hI9
        rw [Exit.noGoto_ret]
        refine bodyPost_ret (v := .tuple #[.pointer (some ⟨rb, 0, none⟩), .agg #[.int .i64 (y : Int), .int .i64 (a : Int)]]) (by simp [results, Tryd.results41, go_sem, q0, q1, q2, q3, qs4]) rfl (.inr ⟨HM.out, rb, ?_, hP9⟩)
        rw [e1, e2]
      · clear hP
        obtain ⟨hrel, hle⟩ := ReadRel.more HB.out HIN.out hwrb (by omega) ha ha8 HV.out hB hy hC' hL' hS'
        have p4 := hC'.2.1
        have HREL' := Lib.hid hrel; clear hrel hy hC' hL' hS'
        go_wp2_with fail
        go_round
        case rel => exact HREL'.out
        case measure => rw [p1, p4]; simp only [Option.getD_some, intOf]; omega
  · have hne : (s.toList == [66, 73, 78, 76, 79, 71, 49, 10]) = false := by rw [← magic_list, beq_eq_false_iff_ne]; exact fun e => hm (strB_inj (HB.out.take 8) magic_bytes (by rw [← hs]; exact e))
    have HN := Lib.hid hm; clear hm hs
    go_enter Tryd.func41, Tryd.ntmps41
    go_wp2
    refine wp_scope_straight ?_
    go_wp2
    rw [Exit.noGoto_ret]
    refine bodyPost_ret (v := .tuple #[.pointer none, .agg #[.int .i64 1, .int .i64 0]]) (by simp [results, Tryd.results41, go_sem]) rfl (.inl ⟨HN.out, rfl, ?_⟩)
    exact (by repeat (first | with_reducible exact Within.refl _ | with_reducible assumption | with_reducible refine Within.alloc ?_ _ | with_reducible refine Within.drew ?_ | with_reducible refine Within.drewN ?_ _ | with_reducible refine Within.setCell ?_ (by first | (simp; done) | (simp; omega)) _ | with_reducible refine Within.trans ?_ (by assumption)))

end Go.Proofs.YtpmjlaiafgbjgaaDoor
end

section
namespace Go.Proofs.YtpmjlaiafgbjgaaDoor
open Go.RowKit

/-- what Read tells: records, the kind of the tail, where it is -/
def logRead (b : List Nat) : List Rec × Nat × Nat := if b.take 8 = magicV then ((readV pf (b.drop 8) 0 startV).1, (readV pf (b.drop 8) 0 startV).2.1, 8 + (readV pf (b.drop 8) 0 startV).2.2.1) else ([], 1, 0)
theorem logRead_no {b : List Nat} (h : b.take 8 ≠ magicV) : logRead b = ([], 1, 0) := if_neg h
theorem logRead_yes {b : List Nat} (h : b.take 8 = magicV) : logRead b = ((readV pf (b.drop 8) 0 startV).1, (readV pf (b.drop 8) 0 startV).2.1, 8 + (readV pf (b.drop 8) 0 startV).2.2.1) := if_pos h

set_option maxRecDepth 100000 in
set_option maxHeartbeats 1000000 in
theorem Read_any (A : Option Addr) (c : Nat) (b : List Nat) (hb : Bytes b) (hlen : b.length ≤ 140737488355328) (hc : b.length ≤ c) (w : World) (hT : FmS w) (hr : SlAt w A (u8v b)) : Calls Tryd.prog 14 #[.slice A b.length c] w fun e w' => ∃ lv, e = .returned (.tuple #[lv, .agg #[.int .i64 ((logRead b).2.1 : Int), .int .i64 ((logRead b).2.2 : Int)]]) ∧ RecsO w' w.heap.size lv ((logRead b).1.map Rec.i) ∧ Within w w' := by
  have RDA := Lib.hid (read_any A c b hb hlen hc (w.alloc (.cells #[.int .i64 0, .int .i64 0] 26)) (hT.of ((Within.refl w).alloc _)) (hr.of ((Within.refl w).alloc _)))
  clear hb hT hr
  obtain ⟨⟨rs, y, a⟩, hlr⟩ : ∃ t, logRead b = t := ⟨_, rfl⟩
  rw [hlr]
  have HLR := Lib.hid hlr; clear hlr
  go_enter Tryd.func14, Tryd.ntmps14
  go_wp2_with fail
  refine RDA.out.mono ?_; rintro e1 w1 hP
  clear RDA
  rcases hP with ⟨hn, rfl, h1⟩ | ⟨hm, rb, rfl, hP⟩
  · obtain ⟨rfl, rfl, rfl⟩ : rs = [] ∧ y = 1 ∧ a = 0 := by have := HLR.out; rw [logRead_no hn] at this; simp only [Prod.mk.injEq] at this; exact ⟨this.1.symm, this.2.1.symm, this.2.2.symm⟩
    clear hn HLR
    have hWT : Within w (w.alloc (.cells #[.int .i64 0, .int .i64 0] 26)) := (Within.refl w).alloc _
    have q0 : w1.cell? ⟨w.heap.size, 0, none⟩ = some (.int .i64 0) := (h1.cells _ _ (by simp)).trans (by simp)
    have q1 : w1.cell? ⟨w.heap.size, 1, none⟩ = some (.int .i64 0) := (h1.cells _ _ (by simp)).trans (by simp)
    have qf0 : w1.frozen? ⟨w.heap.size, 0, none⟩ = false := (h1.frozens _ _ (by simp)).trans (by simp)
    have qf1 : w1.frozen? ⟨w.heap.size, 1, none⟩ = false := (h1.frozens _ _ (by simp)).trans (by simp)
    have qs : w.heap.size < w1.heap.size := Nat.lt_of_lt_of_le (by simp) h1.size
    have H1 := Lib.hid h1; clear h1
    go_wp2
    have hA : Within w1 (w1.alloc (.cells #[.int .i64 1, .int .i64 0] 26)) := (Within.refl w1).alloc _
    have a0 : (w1.alloc (.cells #[.int .i64 1, .int .i64 0] 26)).cell? ⟨w1.heap.size, 0, none⟩ = some (.int .i64 1) := by simp
    have a1 : (w1.alloc (.cells #[.int .i64 1, .int .i64 0] 26)).cell? ⟨w1.heap.size, 1, none⟩ = some (.int .i64 0) := by simp
    have a2 : w1.heap.size < (w1.alloc (.cells #[.int .i64 1, .int .i64 0] 26)).heap.size := by simp
    have qne : ¬ w.heap.size = w1.heap.size := by omega
    refine wp_region_schG (fun W => W.cell? ⟨w.heap.size, 0, none⟩ = some (.int .i64 0) ∧ W.cell? ⟨w.heap.size, 1, none⟩ = some (.int .i64 0) ∧ W.cell? ⟨w1.heap.size, 0, none⟩ = some (.int .i64 1) ∧ W.cell? ⟨w1.heap.size, 1, none⟩ = some (.int .i64 0) ∧ w.heap.size < W.heap.size ∧ w1.heap.size < W.heap.size ∧ W.frozen? ⟨w.heap.size, 0, none⟩ = false ∧ W.frozen? ⟨w.heap.size, 1, none⟩ = false ∧ Within w1 W) 2 (.firm 0 (.firm 1 (.one 2 .nil))) (by kernel_rfl) (by kernel_rfl) ⟨(hA.cells _ 0 qs).trans q0, (hA.cells _ 1 qs).trans q1, a0, a1, Nat.lt_of_lt_of_le qs hA.size, a2, (hA.frozens _ 0 qs).trans qf0, (hA.frozens _ 1 qs).trans qf1, hA⟩ ?_
    rintro w0 ⟨q0, q1, p0, p1, qs, ps, qf0, qf1, hw0⟩
    try simp only [Act.put, List.setIfInBounds_toArray, List.set_cons_zero, List.set_cons_succ]
    iterate 2
      apply sch_firm rfl rfl (by repeat (first | with_reducible exact Within.refl _ | with_reducible assumption | with_reducible refine Within.alloc ?_ _ | with_reducible refine Within.drew ?_ | with_reducible refine Within.drewN ?_ _ | with_reducible refine Within.setCell ?_ (by first | (simp; done) | (simp; omega)) _ | with_reducible refine Within.trans ?_ (by assumption)))
      · intro wq hq
        have hcq := hq.cells
        clear hq
        go_simp
        rfl
      try simp only [Act.put, List.setIfInBounds_toArray, List.set_cons_zero, List.set_cons_succ]
    refine sch_one rfl rfl (fun K hK => ?_)
    go_simp
    refine hK _ _ (fun h => absurd h (by decide)) ?_
    clear hK K
    try simp only [Act.put, List.setIfInBounds_toArray, List.set_cons_zero, List.set_cons_succ]
    refine sch_nil ?_
    go_wp2
    have hX : Within w w0 := (Within.trans ((Within.refl w).alloc _) (H1.out.trans hw0))
    have hK9 : But w.heap.size w0 (((w0.setCell ⟨w.heap.size, 0, none⟩ (.int .i64 1)).setCell ⟨w.heap.size, 1, none⟩ (.int .i64 0)).drew) := (((But.refl w.heap.size w0).set (.inl rfl) _).set (.inl rfl) _).drew
    have hI9 : Within w (((w0.setCell ⟨w.heap.size, 0, none⟩ (.int .i64 1)).setCell ⟨w.heap.size, 1, none⟩ (.int .i64 0)).drew) := (((hX.setCell (Nat.le_refl _) _).setCell (Nat.le_refl _) _).drew)
    refine bodyPost_ret (v := .tuple #[.slice none 0 0, .agg #[.int .i64 1, .int .i64 0]]) (by simp [results, Tryd.results14, go_sem, q0, q1, qf0, qf1, qs]) rfl ⟨_, rfl, RecsO.nil_ _ _, hI9⟩
  · obtain ⟨lv, hwrb, hC, hL, h1⟩ := hP
    obtain ⟨hrs, hy, ha⟩ : (readV pf (b.drop 8) 0 startV).1 = rs ∧ (readV pf (b.drop 8) 0 startV).2.1 = y ∧ 8 + (readV pf (b.drop 8) 0 startV).2.2.1 = a := by have := HLR.out; rw [logRead_yes hm] at this; simpa only [Prod.mk.injEq] using this
    obtain ⟨k, hk⟩ : ∃ k, (readV pf (b.drop 8) 0 startV).2.2.2 = k := ⟨_, rfl⟩
    rw [hy, ha]
    rw [ha, hk] at hC
    rw [hrs] at hL
    clear hy ha hrs hk hm HLR
    have hWT : Within w (w.alloc (.cells #[.int .i64 0, .int .i64 0] 26)) := (Within.refl w).alloc _
    have q0 : w1.cell? ⟨w.heap.size, 0, none⟩ = some (.int .i64 0) := (h1.cells _ _ (by simp)).trans (by simp)
    have q1 : w1.cell? ⟨w.heap.size, 1, none⟩ = some (.int .i64 0) := (h1.cells _ _ (by simp)).trans (by simp)
    have qf0 : w1.frozen? ⟨w.heap.size, 0, none⟩ = false := (h1.frozens _ _ (by simp)).trans (by simp)
    have qf1 : w1.frozen? ⟨w.heap.size, 1, none⟩ = false := (h1.frozens _ _ (by simp)).trans (by simp)
    have qs : w.heap.size < w1.heap.size := Nat.lt_of_lt_of_le (by simp) h1.size
    have p3 := hC.2.2.2.1
    have hrb1 := hC.lt
    have H1 := Lib.hid h1; have HC := Lib.hid hC; have HL := Lib.hid hL; clear h1 hC hL
    obtain ⟨Al, cl, rfl, hx5, hx6, hx7, hx8⟩ := HL.out.at
    clear hx5 hx6 hx7 hx8
    go_wp2
    have hA : Within w1 (w1.alloc (.cells #[.int .i64 (y : Int), .int .i64 (a : Int)] 26)) := (Within.refl w1).alloc _
    have a0 : (w1.alloc (.cells #[.int .i64 (y : Int), .int .i64 (a : Int)] 26)).cell? ⟨w1.heap.size, 0, none⟩ = some (.int .i64 (y : Int)) := by simp
    have a1 : (w1.alloc (.cells #[.int .i64 (y : Int), .int .i64 (a : Int)] 26)).cell? ⟨w1.heap.size, 1, none⟩ = some (.int .i64 (a : Int)) := by simp
    have a2 : w1.heap.size < (w1.alloc (.cells #[.int .i64 (y : Int), .int .i64 (a : Int)] 26)).heap.size := by simp
    have qne : ¬ w.heap.size = w1.heap.size := by omega
    refine wp_region_schG (fun W => W.cell? ⟨w.heap.size, 0, none⟩ = some (.int .i64 0) ∧ W.cell? ⟨w.heap.size, 1, none⟩ = some (.int .i64 0) ∧ W.cell? ⟨w1.heap.size, 0, none⟩ = some (.int .i64 (y : Int)) ∧ W.cell? ⟨w1.heap.size, 1, none⟩ = some (.int .i64 (a : Int)) ∧ w.heap.size < W.heap.size ∧ w1.heap.size < W.heap.size ∧ W.frozen? ⟨w.heap.size, 0, none⟩ = false ∧ W.frozen? ⟨w.heap.size, 1, none⟩ = false ∧ W.cell? ⟨rb, 3, none⟩ = some (.slice Al (rs.map Rec.i).length cl) ∧ rb < W.heap.size ∧ Within w1 W) 6 (.firm 0 (.firm 1 (.firm 2 (.firm 3 (.firm 4 (.firm 5 (.one 6 .nil))))))) (by kernel_rfl) (by kernel_rfl) ⟨(hA.cells _ 0 qs).trans q0, (hA.cells _ 1 qs).trans q1, a0, a1, Nat.lt_of_lt_of_le qs hA.size, a2, (hA.frozens _ 0 qs).trans qf0, (hA.frozens _ 1 qs).trans qf1, (hA.cells _ 3 hrb1).trans p3, Nat.lt_of_lt_of_le hrb1 hA.size, hA⟩ ?_
    rintro w0 ⟨q0, q1, p0, p1, qs, ps, qf0, qf1, p3, hrb1, hw0⟩
    try simp only [Act.put, List.setIfInBounds_toArray, List.set_cons_zero, List.set_cons_succ]
    iterate 6
      apply sch_firm rfl rfl (by repeat (first | with_reducible exact Within.refl _ | with_reducible assumption | with_reducible refine Within.alloc ?_ _ | with_reducible refine Within.drew ?_ | with_reducible refine Within.drewN ?_ _ | with_reducible refine Within.setCell ?_ (by first | (simp; done) | (simp; omega)) _ | with_reducible refine Within.trans ?_ (by assumption)))
      · intro wq hq
        have hcq := hq.cells
        clear hq
        go_simp
        rfl
      try simp only [Act.put, List.setIfInBounds_toArray, List.set_cons_zero, List.set_cons_succ]
    refine sch_one rfl rfl (fun K hK => ?_)
    go_simp
    refine hK _ _ (fun h => absurd h (by decide)) ?_
    clear hK K
    try simp only [Act.put, List.setIfInBounds_toArray, List.set_cons_zero, List.set_cons_succ]
    refine sch_nil ?_
    go_wp2
    have hX : Within w w0 := (Within.trans ((Within.refl w).alloc _) (H1.out.trans hw0))
    have hK9 : But w.heap.size w0 (((w0.setCell ⟨w.heap.size, 0, none⟩ (.int .i64 (y : Int))).setCell ⟨w.heap.size, 1, none⟩ (.int .i64 (a : Int))).drew) := (((But.refl w.heap.size w0).set (.inl rfl) _).set (.inl rfl) _).drew
    have hI9 : Within w (((w0.setCell ⟨w.heap.size, 0, none⟩ (.int .i64 (y : Int))).setCell ⟨w.heap.size, 1, none⟩ (.int .i64 (a : Int))).drew) := (((hX.setCell (Nat.le_refl _) _).setCell (Nat.le_refl _) _).drew)
    have hL9 := (HL.out.of hw0).keep (w' := ((w0.setCell ⟨w.heap.size, 0, none⟩ (.int .i64 (y : Int))).setCell ⟨w.heap.size, 1, none⟩ (.int .i64 (a : Int))).drew) (fun j hj hl => hK9.block j hl (fun e => by have := Option.some.inj e; simp at hj; omega))
    refine bodyPost_ret (v := .tuple #[.slice Al (rs.map Rec.i).length cl, .agg #[.int .i64 (y : Int), .int .i64 (a : Int)]]) (by simp [results, Tryd.results14, go_sem, q0, q1, qf0, qf1, qs]) rfl ⟨_, rfl, hL9.less (by simp), hI9⟩

end Go.Proofs.YtpmjlaiafgbjgaaDoor
end

section
namespace Go.Proofs.YtpmjlaiafgbjgaaDoor
open Go.RowKit

theorem Within.grown {a b c : World} {row : Option Nat} (h : Within a b) (k : b.grownBy c row) (hr : ∀ j, row = some j → a.heap.size ≤ j) : Within a c :=
  h.asides ((ButS.refl (fun j => row = some j) b).grown k (fun j hj => .inl hj)) hr
/-- at each turn of the reference's loop: so many records are read -/
def RrdRel (WT : World) (b : List Nat) (lv av kv : Value) (wr : World) : Prop := ∃ (a k : Nat) (rs : List Rec), av = .int .i64 (a : Int) ∧ kv = .int .u32 (k : Int) ∧ RecsO wr WT.heap.size lv (rs.map Rec.i) ∧ Within WT wr ∧ a ≤ b.length ∧ 8 ≤ a ∧ k < 4294967296 ∧ rs.length ≤ 1048576 ∧
  readV pf (b.drop 8) 0 startV = (rs ++ (readV pf (b.drop a) rs.length k).1, (readV pf (b.drop a) rs.length k).2.1, (a - 8) + (readV pf (b.drop a) rs.length k).2.2.1, (readV pf (b.drop a) rs.length k).2.2.2)
theorem RrdRel.start {WT W : World} {b : List Nat} (h8 : 8 ≤ b.length) (hW : Within WT W) : RrdRel WT b (.slice none 0 0) (.int .i64 8) (.int .u32 (startV : Int)) W :=
  ⟨8, startV, [], rfl, rfl, RecsO.nil_ _ _, hW, h8, Nat.le_refl _, startV_lt, by simp, by simp⟩
theorem why_next {b : List Nat} {a k : Nat} {rs : List Rec} (hb : Bytes b) (h8 : 8 ≤ a) (ha : a ≤ b.length)
    (hv : readV pf (b.drop 8) 0 startV = (rs ++ (readV pf (b.drop a) rs.length k).1, (readV pf (b.drop a) rs.length k).2.1, (a - 8) + (readV pf (b.drop a) rs.length k).2.2.1, (readV pf (b.drop a) rs.length k).2.2.2))
    (hy : whyV pf (b.drop a) rs.length k = 0) : a + (endV (b.drop a) + 4) ≤ b.length ∧ rs.length < 1048576 ∧ linkV k ((b.drop a).take (endV (b.drop a))) < 4294967296 ∧
    readV pf (b.drop 8) 0 startV = ((rs ++ [recV (b.drop a)]) ++ (readV pf (b.drop (a + (endV (b.drop a) + 4))) (rs ++ [recV (b.drop a)]).length (linkV k ((b.drop a).take (endV (b.drop a))))).1, (readV pf (b.drop (a + (endV (b.drop a) + 4))) (rs ++ [recV (b.drop a)]).length (linkV k ((b.drop a).take (endV (b.drop a))))).2.1, (a + (endV (b.drop a) + 4) - 8) + (readV pf (b.drop (a + (endV (b.drop a) + 4))) (rs ++ [recV (b.drop a)]).length (linkV k ((b.drop a).take (endV (b.drop a))))).2.2.1, (readV pf (b.drop (a + (endV (b.drop a) + 4))) (rs ++ [recV (b.drop a)]).length (linkV k ((b.drop a).take (endV (b.drop a))))).2.2.2) := by
  obtain ⟨s1, s2, s3, s4⟩ := whyV_sums hy
  have hn : rs.length < 1048576 := by
    by_cases h : 1048576 ≤ rs.length
    · have := why_form (b := b.drop a) (n := rs.length) (k := k) (by omega) (fun e => e s2) (.inr (.inr (.inr (.inr h))))
      rw [this] at hy; cases hy
    · omega
  have hl : (b.drop a).length = b.length - a := List.length_drop
  refine ⟨by omega, hn, linkV_lt ((hb.drop a).take _), ?_⟩
  rw [hv, readV_rec hy, List.drop_drop, List.length_append]
  simp only [List.append_assoc, List.singleton_append, List.length_cons, List.length_nil, Prod.mk.injEq, true_and]
  have e : a + (endV (b.drop a) + 4) - 8 = a - 8 + (endV (b.drop a) + 4) := by omega
  rw [e]
  refine ⟨?_, trivial⟩
  rw [Nat.zero_add]
  omega
theorem logRead_end {b : List Nat} {a k y : Nat} {rs : List Rec} (hm : b.take 8 = magicV) (h8 : 8 ≤ a)
    (hv : readV pf (b.drop 8) 0 startV = (rs ++ (readV pf (b.drop a) rs.length k).1, (readV pf (b.drop a) rs.length k).2.1, (a - 8) + (readV pf (b.drop a) rs.length k).2.2.1, (readV pf (b.drop a) rs.length k).2.2.2))
    (hy : readV pf (b.drop a) rs.length k = ([], y, 0, k)) : logRead b = (rs, y, a) := by
  rw [hy] at hv
  rw [logRead_yes hm, hv]
  have e : 8 + (a - 8 + 0) = a := by omega
  simp only [e, List.append_nil]

set_option maxRecDepth 100000 in
set_option maxHeartbeats 1000000 in
theorem Rread_any (A : Option Addr) (c : Nat) (b : List Nat) (hb : Bytes b) (hlen : b.length ≤ 140737488355328) (hc : b.length ≤ c) (w : World) (hr : SlAt w A (u8v b)) : Calls Tryd.prog 15 #[.slice A b.length c] w fun e w' => ∃ lv, e = .returned (.tuple #[lv, .agg #[.int .i64 ((logRead b).2.1 : Int), .int .i64 ((logRead b).2.2 : Int)]]) ∧ RecsO w' w.heap.size lv ((logRead b).1.map Rec.i) ∧ Within w w' := by
  obtain ⟨⟨rs9, y9, a9⟩, hlr⟩ : ∃ t, logRead b = t := ⟨_, rfl⟩
  rw [hlr]
  have HLR := Lib.hid hlr; clear hlr
  obtain ⟨WT, hWT⟩ : ∃ WT, WT = w.alloc (.cells #[.int .i64 0, .int .i64 0] 26) := ⟨_, rfl⟩
  have q0 : WT.cell? ⟨w.heap.size, 0, none⟩ = some (.int .i64 0) := by rw [hWT]; simp
  have q1 : WT.cell? ⟨w.heap.size, 1, none⟩ = some (.int .i64 0) := by rw [hWT]; simp
  have qf0 : WT.frozen? ⟨w.heap.size, 0, none⟩ = false := by rw [hWT]; simp
  have qf1 : WT.frozen? ⟨w.heap.size, 1, none⟩ = false := by rw [hWT]; simp
  have hWW0 : Within w WT := by rw [hWT]; exact (Within.refl w).alloc _
  have qs : w.heap.size < WT.heap.size := by rw [hWT]; simp
  have QT := Lib.hid (And.intro q0 (And.intro q1 (And.intro qf0 (And.intro qf1 qs))))
  have HWW := Lib.hid hWW0; have HR := Lib.hid (hr.of hWW0); have HB := Lib.hid hb
  clear hWW0 hr hb
  by_cases h8 : b.length < 8
  · obtain ⟨rfl, rfl, rfl⟩ : rs9 = [] ∧ y9 = 1 ∧ a9 = 0 := by have := HLR.out; rw [logRead_no (fun h => by have := congrArg List.length h; rw [List.length_take] at this; have e : magicV.length = 8 := rfl; omega)] at this; simp only [Prod.mk.injEq] at this; exact ⟨this.1.symm, this.2.1.symm, this.2.2.symm⟩
    have v0 : decide ((b.length : Int) < 8) = true := decide_eq_true (by omega)
    clear h8 HLR
    go_enter Tryd.func15, Tryd.ntmps15
    go_wp2_with fail
    rw [← hWT]
    clear hWT
    refine (Magic_any _).mono ?_; rintro e1 w1 ⟨vm, rfl, hOm, h1⟩
    obtain ⟨Am, cm, rfl, hcm, hsm, _⟩ := hOm.form
    have q0 := (h1.cells _ _ qs).trans q0
    have q1 := (h1.cells _ _ qs).trans q1
    have qf0 := (h1.frozens _ _ qs).trans qf0
    have qf1 := (h1.frozens _ _ qs).trans qf1
    have qs := Nat.lt_of_lt_of_le qs h1.size
    have HSM := Lib.hid hsm
    clear hsm hOm
    rw [show magicV.length = 8 from rfl]
    rw [show magicV.length = 8 from rfl] at hcm
    have cm8 : (8 : Int) ≤ (cm : Int) := by omega
    go_wp2_with fail
    refine wp_region_schG (fun W => SlAt W A (u8v b) ∧ SlAt W Am (u8v magicV) ∧ W.cell? ⟨w.heap.size, 0, none⟩ = some (.int .i64 0) ∧ W.cell? ⟨w.heap.size, 1, none⟩ = some (.int .i64 0) ∧ W.frozen? ⟨w.heap.size, 0, none⟩ = false ∧ W.frozen? ⟨w.heap.size, 1, none⟩ = false ∧ w.heap.size < W.heap.size ∧ Within w1 W) 14 (.firm 0 (.firm 1 (.firm 2 (.firm 3 (.firm 4 (.firm 5 (.firm 6 (.firm 7 (.firm 8 (.firm 9 (.firm 10 (.firm 11 (.firm 12 (.firm 13 (.one 14 .nil))))))))))))))) (by kernel_rfl) (by kernel_rfl) ⟨HR.out.of h1, HSM.out, q0, q1, qf0, qf1, qs, Within.refl _⟩ ?_
    rintro w0 ⟨hls, hms, q0, q1, qf0, qf1, qs, hw0⟩
    try simp only [Act.put, List.setIfInBounds_toArray, List.set_cons_zero, List.set_cons_succ]
    iterate 6
      apply sch_firm rfl rfl (by repeat (first | with_reducible exact Within.refl _ | with_reducible assumption | with_reducible refine Within.alloc ?_ _ | with_reducible refine Within.drew ?_ | with_reducible refine Within.drewN ?_ _ | with_reducible refine Within.setCell ?_ (by first | (simp; done) | (simp; omega)) _ | with_reducible refine Within.trans ?_ (by assumption)))
      · intro wq hq
        have hcq := hq.cells
        clear hq
        go_simp
        rfl
      try simp only [Act.put, List.setIfInBounds_toArray, List.set_cons_zero, List.set_cons_succ]
    iterate 8
      refine sch_skip rfl (by first | rfl | decide | (simp [Region.wanted, yielded]; done)) (by repeat (first | with_reducible exact Within.refl _ | with_reducible assumption | with_reducible refine Within.alloc ?_ _ | with_reducible refine Within.drew ?_ | with_reducible refine Within.drewN ?_ _ | with_reducible refine Within.setCell ?_ (by first | (simp; done) | (simp; omega)) _ | with_reducible refine Within.trans ?_ (by assumption))) ?_
      try simp only [Act.put, List.setIfInBounds_toArray, List.set_cons_zero, List.set_cons_succ]
    refine sch_one rfl rfl (fun K hK => ?_)
    go_simp
    refine hK _ _ (fun h => absurd h (by decide)) ?_
    clear hK K
    try simp only [Act.put, List.setIfInBounds_toArray, List.set_cons_zero, List.set_cons_succ]
    refine sch_nil ?_
    go_wp2
    refine bodyPost_ret (v := .tuple #[.slice none 0 0, .agg #[.int .i64 1, .int .i64 0]]) (by simp [results, Tryd.results15, go_sem, q0, q1, qf0, qf1, qs]) rfl ⟨_, rfl, RecsO.nil_ _ _, ?_⟩
    exact ((((HWW.out.trans (h1.trans hw0)).setCell (Nat.le_refl _) _).setCell (Nat.le_refl _) _).drew)
  obtain ⟨ad, rfl, _, _⟩ := SlAt.at (l := b) (k := 0) (by exact HR.out) (by omega)
  have l8 : (b.take 8).length = 8 := by rw [List.length_take]; omega
  obtain ⟨s, hs⟩ : ∃ s, strB (b.take 8) = s := ⟨_, rfl⟩
  obtain ⟨ms, hms⟩ : ∃ s, strB magicV = s := ⟨_, rfl⟩
  have ST : Hid (∀ W, SlAt W (some ad) (u8v b) → (convert 22 9 (.slice (some ad) 8 c)).run Tryd.prog W = .ok (.string s) W) := Lib.hid (fun W h => by
    have h2 : SlAt W (some ad) (u8v (b.take 8)) := by have := h.take 8; unfold u8v at this ⊢; rwa [← List.map_take] at this
    rw [← hs]; have := run_str (some ad) c (b.take 8) W h2; rwa [l8] at this)
  have SM : Hid (∀ W A c, SlAt W A (u8v magicV) → (convert 22 9 (.slice A 8 c)).run Tryd.prog W = .ok (.string ms) W) := Lib.hid (fun W A c h => by rw [← hms]; exact run_str A c magicV W h)
  have v0 : decide ((b.length : Int) < 8) = false := decide_eq_false (by omega)
  have b8 : (8 : Int) ≤ (b.length : Int) := by omega
  have c8 : (8 : Int) ≤ (c : Int) := by omega
  have n8 : 8 ≤ b.length := by omega
  have m8 : 8 ≤ c := by omega
  have bc : (b.length : Int) ≤ (c : Int) := by omega
  clear h8
  by_cases hm : b.take 8 = magicV
  · obtain rfl : s = ms := by rw [← hs, ← hms, hm]
    have hne : (s.toList != s.toList) = false := by simp
    have HM := Lib.hid hm; clear hm hs hms
    go_enter Tryd.func15, Tryd.ntmps15
    go_wp2_with fail
    rw [← hWT]
    clear hWT
    refine (Magic_any _).mono ?_; rintro e1 w1 ⟨vm, rfl, hOm, h1⟩
    obtain ⟨Am, cm, rfl, hcm, hsm, _⟩ := hOm.form
    have q0 := (h1.cells _ _ qs).trans q0
    have q1 := (h1.cells _ _ qs).trans q1
    have qf0 := (h1.frozens _ _ qs).trans qf0
    have qf1 := (h1.frozens _ _ qs).trans qf1
    have qs := Nat.lt_of_lt_of_le qs h1.size
    have HSM := Lib.hid hsm
    clear hsm hOm
    rw [show magicV.length = 8 from rfl]
    rw [show magicV.length = 8 from rfl] at hcm
    have cm8 : (8 : Int) ≤ (cm : Int) := by omega
    go_wp2_with fail
    refine wp_region_schG (fun W => SlAt W (some ad) (u8v b) ∧ SlAt W Am (u8v magicV) ∧ W.cell? ⟨w.heap.size, 0, none⟩ = some (.int .i64 0) ∧ W.cell? ⟨w.heap.size, 1, none⟩ = some (.int .i64 0) ∧ W.frozen? ⟨w.heap.size, 0, none⟩ = false ∧ W.frozen? ⟨w.heap.size, 1, none⟩ = false ∧ w.heap.size < W.heap.size ∧ Within w1 W) 14 (.firm 0 (.firm 1 (.firm 2 (.firm 3 (.firm 4 (.firm 5 (.firm 6 (.firm 7 (.firm 8 (.firm 9 (.firm 10 (.firm 11 (.firm 12 (.firm 13 (.one 14 .nil))))))))))))))) (by kernel_rfl) (by kernel_rfl) ⟨HR.out.of h1, HSM.out, q0, q1, qf0, qf1, qs, Within.refl _⟩ ?_
    rintro w0 ⟨hls, hms, q0, q1, qf0, qf1, qs, hw0⟩
    try simp only [Act.put, List.setIfInBounds_toArray, List.set_cons_zero, List.set_cons_succ]
    iterate 6
      apply sch_firm rfl rfl (by repeat (first | with_reducible exact Within.refl _ | with_reducible assumption | with_reducible refine Within.alloc ?_ _ | with_reducible refine Within.drew ?_ | with_reducible refine Within.drewN ?_ _ | with_reducible refine Within.setCell ?_ (by first | (simp; done) | (simp; omega)) _ | with_reducible refine Within.trans ?_ (by assumption)))
      · intro wq hq
        have hcq := hq.cells
        have st1 := ST.out wq (hls.of hq)
        have st2 := SM.out wq Am cm (hms.of hq)
        clear hq
        go_simp
        rfl
      try simp only [Act.put, List.setIfInBounds_toArray, List.set_cons_zero, List.set_cons_succ]
    iterate 8
      apply sch_want rfl (by first | rfl | decide | (simp [Region.wanted, yielded]; done)) (by repeat (first | with_reducible exact Within.refl _ | with_reducible assumption | with_reducible refine Within.alloc ?_ _ | with_reducible refine Within.drew ?_ | with_reducible refine Within.drewN ?_ _ | with_reducible refine Within.setCell ?_ (by first | (simp; done) | (simp; omega)) _ | with_reducible refine Within.trans ?_ (by assumption)))
      · intro wq hq
        have hcq := hq.cells
        have st1 := ST.out wq (hls.of hq)
        have st2 := SM.out wq Am cm (hms.of hq)
        clear hq
        go_simp
        rfl
      try simp only [Act.put, List.setIfInBounds_toArray, List.set_cons_zero, List.set_cons_succ]
    refine sch_one rfl rfl (fun K hK => ?_)
    go_simp
    refine hK _ _ (fun h => absurd h (by decide)) ?_
    clear hK K
    try simp only [Act.put, List.setIfInBounds_toArray, List.set_cons_zero, List.set_cons_succ]
    refine sch_nil ?_
    have h03 : Within WT w0 := h1.trans hw0
    have HX0 := Lib.hid h03
    clear hls hms hw0 h03 h1 HSM
    go_wp2_with fail
    refine (start_any _).mono ?_; rintro e3 w3 ⟨rfl, h3⟩
    have HREL := Lib.hid (RrdRel.start (WT := WT) (b := b) n8 (HX0.out.trans (Within.trans ((Within.refl w0).drew) h3)))
    clear h3
    go_wp2_with fail
    go_loopw [5, 6, 7] (fun lv av kv wr => RrdRel WT b lv av kv wr) (fun _ av _ _ => b.length - (intOf av).toNat)
    case atStart => exact HREL.out
    case round =>
      obtain ⟨a, k, rs, rfl, rfl, hL, hin, ha, ha8, hk, hrs, hv⟩ := hrel
      obtain ⟨Al, cl, rfl, hcl, hx1, hx2, hx3⟩ := hL.at
      clear hx1 hx2 hx3
      rw [List.length_map] at hcl hL ⊢
      obtain ⟨t0, t1, t2, t3, ts⟩ := QT.out
      have HV := Lib.hid hv; have HL := Lib.hid hL; have HIN := Lib.hid hin
      clear hv hL
      by_cases hlt : a < b.length
      · have TK := Lib.hid (Rtake22_any (some (ad.add a)) (c - a) (b.drop a) (HB.out.drop a) (by rw [List.length_drop]; omega) (by rw [List.length_drop]; omega) rs.length k hk hrs _ (left_at (HR.out.of hin) a))
        rw [List.length_drop] at TK
        clear hin
        have i1 : (a : Int) < (b.length : Int) := by omega
        have i2 : (a : Int) ≤ (b.length : Int) := by omega
        have i3 : (a : Int) ≤ (c : Int) := by omega
        have i4 : ¬ c = a := by omega
        have i5 : (0 : Int) ≤ (a : Int) := by omega
        have i6 : a ≤ c := by omega
        go_wp2_with fail
        refine TK.out.mono ?_; rintro e5 w5 hP
        clear TK
        rcases hP with ⟨hy, rfl, h5⟩ | ⟨hy, v, rfl, hO5, h5⟩
        · have HY := Lib.hid (readV_why (F := pf) (b := b.drop a) (n := rs.length) (last := k) (fun h => by have := congrArg List.length h; rw [List.length_drop] at this; simp at this; omega) hy)
          obtain ⟨y, hyy⟩ : ∃ y, whyV pf (b.drop a) rs.length k = y := ⟨_, rfl⟩
          rw [hyy] at hy HY ⊢
          clear hyy
          obtain ⟨rfl, rfl, rfl⟩ : rs9 = rs ∧ y9 = y ∧ a9 = a := by have := HLR.out; rw [logRead_end HM.out ha8 HV.out HY.out] at this; simp only [Prod.mk.injEq] at this; exact ⟨this.1.symm, this.2.1.symm, this.2.2.symm⟩
          have y0 : ((y9 : Int) != 0) = true := bne_iff_ne.2 (by omega)
          have H5x := HIN.out.trans h5
          have q0 := (H5x.cells _ 0 ts).trans t0
          have q1 := (H5x.cells _ 1 ts).trans t1
          have qf0 := (H5x.frozens _ 0 ts).trans t2
          have qf1 := (H5x.frozens _ 1 ts).trans t3
          have qs := Nat.lt_of_lt_of_le ts H5x.size
          have HLx := Lib.hid (HL.out.of h5)
          have HX := Lib.hid H5x
          clear h5 H5x hy t0 t1 t2 t3
          go_wp2
          have hK9 : But w.heap.size w5 ((w5.setCell ⟨w.heap.size, 0, none⟩ (.int .i64 (y9 : Int))).setCell ⟨w.heap.size, 1, none⟩ (.int .i64 (a9 : Int))) := ((But.refl w.heap.size w5).set (.inl rfl) _).set (.inl rfl) _
          have hL9 := (((HLx.out).but hK9 ts).less (Nat.le_of_lt ts)).of ((Within.refl _).alloc (.cells #[.int .i64 0, .slice none 0 0] 50))
          refine bodyPost_ret (v := .tuple #[.slice Al rs9.length cl, .agg #[.int .i64 (y9 : Int), .int .i64 (a9 : Int)]]) (by simp [results, Tryd.results15, go_sem, q0, q1, qf0, qf1, qs]) rfl ⟨_, rfl, hL9, ?_⟩
          exact (((HWW.out.trans HX.out).setCell (Nat.le_refl _) _).setCell (Nat.le_refl _) _).alloc _
        · have hy0 := hy
          obtain ⟨le9, hn9, hk9, hv9⟩ := why_next HB.out ha8 ha HV.out hy
          obtain ⟨k9, hkk⟩ : ∃ k9, linkV k ((b.drop a).take (endV (b.drop a))) = k9 := ⟨_, rfl⟩
          rw [hkk] at hk9 hv9 ⊢
          obtain ⟨r9, hr9⟩ : ∃ r, recV (b.drop a) = r := ⟨_, rfl⟩
          obtain ⟨E, hE⟩ : ∃ E, endV (b.drop a) + 4 = E := ⟨_, rfl⟩
          have hri : Rec.i r9 = (((b.drop a).getD 0 0 : Int), (b.drop a |>.drop 13).take (at4 (b.drop a) 5)) := by rw [← hr9]; rfl
          rw [hr9, hE] at hv9
          rw [hE] at le9 ⊢
          have hE0 : 0 < E := by omega
          obtain ⟨x, hx⟩ : ∃ x, (b.drop a).getD 0 0 = x := ⟨_, rfl⟩
          rw [hx] at hri ⊢
          obtain ⟨dd, hdd⟩ : ∃ d, ((b.drop a).drop 13).take (at4 (b.drop a) 5) = d := ⟨_, rfl⟩
          rw [hdd] at hri hO5
          have hdb : Bytes dd := by rw [← hdd]; exact ((HB.out.drop a).drop 13).take _
          obtain ⟨Av, cv, rfl, _, _, _⟩ := hO5.form
          have hlt9 := HL.out.own_lt
          obtain ⟨W8, hW8⟩ : ∃ W8, W8 = w5.alloc (.cells #[.int .i64 (x : Int), .slice Av dd.length cv] 50) := ⟨_, rfl⟩
          have h58 : Within w5 W8 := by rw [hW8]; exact (Within.refl w5).alloc _
          have hne9 : (Value.slice Av dd.length cv).ownBlock = none ∨ (Value.slice Av dd.length cv).ownBlock ≠ (Value.slice Al rs.length cl).ownBlock := by
            cases ho : (Value.slice Av dd.length cv).ownBlock with
            | none => exact .inl rfl
            | some j => exact .inr (fun e => by have h1 := (hO5.lt j ho).1; have h2 := (hlt9 j e.symm).2; omega)
          obtain ⟨vn, wn, hrun9, hR9, hg9, hb9, ho9⟩ := run_app_rec W8 WT.heap.size (.slice Al rs.length cl) (rs.map Rec.i) ((x : Int), dd) (.slice Av dd.length cv) (HL.out.of (h5.trans h58)) ((hO5.less HIN.out.size).of h58) hdb hne9 (by rw [List.length_map]; omega) (HIN.out.trans (h5.trans h58)).size
          have hX9 : Within WT wn := (HIN.out.trans (h5.trans h58)).grown hg9 (fun j hj => (hb9 j hj))
          have hmap : rs.map Rec.i ++ [((x : Int), dd)] = (rs ++ [r9]).map Rec.i := by rw [List.map_append]; show _ = _ ++ [Rec.i r9]; rw [hri]
          rw [hmap] at hR9
          have hS8 : W8.heap.size = w5.heap.size + 1 := by rw [hW8]; simp
          rw [hS8] at hrun9
          rw [hW8] at hrun9
          clear hS8
          have RUN9 := Lib.hid hrun9; have HR9 := Lib.hid hR9; have HX9 := Lib.hid hX9
          clear hrun9 hR9 hg9 hb9 ho9 hX9 hmap hne9 hlt9 h58 hW8
          have H5 := Lib.hid h5; have HO5 := Lib.hid hO5; have HV9 := Lib.hid hv9; have HRI := Lib.hid hri; have HDB := Lib.hid hdb
          clear h5 hO5 hv9 hri hdb hdd hx hE hr9 hkk hy hy0 t0 t1 t2 t3
          go_wp2_with (at_builtin; refine wpList_append_run rfl (.tmp 54) (.tmp 56) 31 rfl _ _ rfl rfl RUN9.out ?_)
          go_round
          case rel => exact ⟨a + E, k9, rs ++ [r9], rfl, rfl, HR9.out, HX9.out, by omega, by omega, hk9, by simp; omega, HV9.out⟩
          case measure => simp [intOf]; omega
      · obtain rfl : a = b.length := by omega
        have HY : Hid (readV pf (b.drop b.length) rs.length k = ([], 0, 0, k)) := Lib.hid (by rw [List.drop_length]; exact readV_nil _ _)
        obtain ⟨rfl, rfl, rfl⟩ : rs9 = rs ∧ y9 = 0 ∧ a9 = b.length := by have := HLR.out; rw [logRead_end HM.out ha8 HV.out HY.out] at this; simp only [Prod.mk.injEq] at this; exact ⟨this.1.symm, this.2.1.symm, this.2.2.symm⟩
        have q0 := (hin.cells _ 0 ts).trans t0
        have q1 := (hin.cells _ 1 ts).trans t1
        have qf0 := (hin.frozens _ 0 ts).trans t2
        have qf1 := (hin.frozens _ 1 ts).trans t3
        have qs := Nat.lt_of_lt_of_le ts hin.size
        have HLx := HL
        clear hin t0 t1 t2 t3
        go_wp2
        have hK9 : But w.heap.size wr ((wr.setCell ⟨w.heap.size, 0, none⟩ (.int .i64 0)).setCell ⟨w.heap.size, 1, none⟩ (.int .i64 (b.length : Int))) := ((But.refl w.heap.size wr).set (.inl rfl) _).set (.inl rfl) _
        have hL9 := (((HLx.out).but hK9 ts).less (Nat.le_of_lt ts))
        refine bodyPost_ret (v := .tuple #[.slice Al rs9.length cl, .agg #[.int .i64 0, .int .i64 (b.length : Int)]]) (by simp [results, Tryd.results15, go_sem, q0, q1, qf0, qf1, qs]) rfl ⟨_, rfl, hL9, ?_⟩
        exact (((HWW.out.trans HIN.out).setCell (Nat.le_refl _) _).setCell (Nat.le_refl _) _)
  · obtain ⟨rfl, rfl, rfl⟩ : rs9 = [] ∧ y9 = 1 ∧ a9 = 0 := by have := HLR.out; rw [logRead_no (hm)] at this; simp only [Prod.mk.injEq] at this; exact ⟨this.1.symm, this.2.1.symm, this.2.2.symm⟩
    have hne' : s.toList ≠ ms.toList := fun e => hm (strB_inj (HB.out.take 8) magic_bytes (by rw [hs, hms]; exact e))
    have hne : (s.toList != ms.toList) = true := bne_iff_ne.2 hne'
    have hnq : (s.toList == ms.toList) = false := beq_eq_false_iff_ne.2 hne'
    clear hm hs hms HLR hne'
    go_enter Tryd.func15, Tryd.ntmps15
    go_wp2_with fail
    rw [← hWT]
    clear hWT
    refine (Magic_any _).mono ?_; rintro e1 w1 ⟨vm, rfl, hOm, h1⟩
    obtain ⟨Am, cm, rfl, hcm, hsm, _⟩ := hOm.form
    have q0 := (h1.cells _ _ qs).trans q0
    have q1 := (h1.cells _ _ qs).trans q1
    have qf0 := (h1.frozens _ _ qs).trans qf0
    have qf1 := (h1.frozens _ _ qs).trans qf1
    have qs := Nat.lt_of_lt_of_le qs h1.size
    have HSM := Lib.hid hsm
    clear hsm hOm
    rw [show magicV.length = 8 from rfl]
    rw [show magicV.length = 8 from rfl] at hcm
    have cm8 : (8 : Int) ≤ (cm : Int) := by omega
    go_wp2_with fail
    refine wp_region_schG (fun W => SlAt W (some ad) (u8v b) ∧ SlAt W Am (u8v magicV) ∧ W.cell? ⟨w.heap.size, 0, none⟩ = some (.int .i64 0) ∧ W.cell? ⟨w.heap.size, 1, none⟩ = some (.int .i64 0) ∧ W.frozen? ⟨w.heap.size, 0, none⟩ = false ∧ W.frozen? ⟨w.heap.size, 1, none⟩ = false ∧ w.heap.size < W.heap.size ∧ Within w1 W) 14 (.firm 0 (.firm 1 (.firm 2 (.firm 3 (.firm 4 (.firm 5 (.firm 6 (.firm 7 (.firm 8 (.firm 9 (.firm 10 (.firm 11 (.firm 12 (.firm 13 (.one 14 .nil))))))))))))))) (by kernel_rfl) (by kernel_rfl) ⟨HR.out.of h1, HSM.out, q0, q1, qf0, qf1, qs, Within.refl _⟩ ?_
    rintro w0 ⟨hls, hms, q0, q1, qf0, qf1, qs, hw0⟩
    try simp only [Act.put, List.setIfInBounds_toArray, List.set_cons_zero, List.set_cons_succ]
    iterate 6
      apply sch_firm rfl rfl (by repeat (first | with_reducible exact Within.refl _ | with_reducible assumption | with_reducible refine Within.alloc ?_ _ | with_reducible refine Within.drew ?_ | with_reducible refine Within.drewN ?_ _ | with_reducible refine Within.setCell ?_ (by first | (simp; done) | (simp; omega)) _ | with_reducible refine Within.trans ?_ (by assumption)))
      · intro wq hq
        have hcq := hq.cells
        have st1 := ST.out wq (hls.of hq)
        have st2 := SM.out wq Am cm (hms.of hq)
        clear hq
        go_simp
        rfl
      try simp only [Act.put, List.setIfInBounds_toArray, List.set_cons_zero, List.set_cons_succ]
    iterate 8
      apply sch_want rfl (by first | rfl | decide | (simp [Region.wanted, yielded]; done)) (by repeat (first | with_reducible exact Within.refl _ | with_reducible assumption | with_reducible refine Within.alloc ?_ _ | with_reducible refine Within.drew ?_ | with_reducible refine Within.drewN ?_ _ | with_reducible refine Within.setCell ?_ (by first | (simp; done) | (simp; omega)) _ | with_reducible refine Within.trans ?_ (by assumption)))
      · intro wq hq
        have hcq := hq.cells
        have st1 := ST.out wq (hls.of hq)
        have st2 := SM.out wq Am cm (hms.of hq)
        clear hq
        go_simp
        rfl
      try simp only [Act.put, List.setIfInBounds_toArray, List.set_cons_zero, List.set_cons_succ]
    refine sch_one rfl rfl (fun K hK => ?_)
    go_simp
    refine hK _ _ (fun h => absurd h (by decide)) ?_
    clear hK K
    try simp only [Act.put, List.setIfInBounds_toArray, List.set_cons_zero, List.set_cons_succ]
    refine sch_nil ?_
    go_wp2
    refine bodyPost_ret (v := .tuple #[.slice none 0 0, .agg #[.int .i64 1, .int .i64 0]]) (by simp [results, Tryd.results15, go_sem, q0, q1, qf0, qf1, qs]) rfl ⟨_, rfl, RecsO.nil_ _ _, ?_⟩
    exact ((((HWW.out.trans (h1.trans hw0)).setCell (Nat.le_refl _) _).setCell (Nat.le_refl _) _).drew)

end Go.Proofs.YtpmjlaiafgbjgaaDoor
end

section
namespace Go.Proofs.YtpmjlaiafgbjgaaDoor
open Go.RowKit

/-- the links of records that are laid from a number and a link on -/
def linksV : List Rec → Nat → Nat → List Nat
  | [], _, _ => []
  | r :: l, n, last => nextV r n last :: linksV l (n + 1) (nextV r n last)
theorem linksV_len : ∀ (l : List Rec) (n last : Nat), (linksV l n last).length = l.length
  | [], _, _ => rfl
  | r :: l, n, last => by show (linksV l _ _).length + 1 = l.length + 1; rw [linksV_len l]
theorem linksV_snoc : ∀ (l : List Rec) (r : Rec) (n last : Nat), linksV (l ++ [r]) n last = linksV l n last ++ [nextV r (n + l.length) (lastV l n last)]
  | [], r, n, last => rfl
  | q :: l, r, n, last => by
    show nextV q n last :: linksV (l ++ [r]) (n + 1) (nextV q n last) = nextV q n last :: (linksV l (n + 1) (nextV q n last) ++ _)
    rw [linksV_snoc l]
    show _ = nextV q n last :: (_ ++ [nextV r (n + (l.length + 1)) (lastV l (n + 1) (nextV q n last))])
    rw [show n + (l.length + 1) = n + 1 + l.length by omega]
theorem lastV_snoc : ∀ (l : List Rec) (r : Rec) (n last : Nat), lastV (l ++ [r]) n last = nextV r (n + l.length) (lastV l n last)
  | [], r, n, last => rfl
  | q :: l, r, n, last => by
    show lastV (l ++ [r]) (n + 1) (nextV q n last) = nextV r (n + (l.length + 1)) (lastV l (n + 1) (nextV q n last))
    rw [lastV_snoc l, show n + (l.length + 1) = n + 1 + l.length by omega]
theorem laidV_snoc : ∀ (l : List Rec) (r : Rec) (n last : Nat), laidV (l ++ [r]) n last = laidV l n last ++ layV r (n + l.length) (lastV l n last)
  | [], r, n, last => by show layV r n last ++ [] = [] ++ layV r n last; rw [List.append_nil, List.nil_append]
  | q :: l, r, n, last => by
    show layV q n last ++ laidV (l ++ [r]) (n + 1) (nextV q n last) = (layV q n last ++ laidV l (n + 1) (nextV q n last)) ++ layV r (n + (l.length + 1)) (lastV l (n + 1) (nextV q n last))
    rw [laidV_snoc l, show n + (l.length + 1) = n + 1 + l.length by omega, List.append_assoc]
theorem logV_snoc (l : List Rec) (r : Rec) : logV (l ++ [r]) = logV l ++ layV r l.length (lastV l 0 startV) := by
  unfold logV; rw [laidV_snoc, Nat.zero_add, List.append_assoc]
theorem linksV_last : ∀ (l : List Rec) (n last : Nat), l ≠ [] → (linksV l n last).getD (l.length - 1) 0 = lastV l n last
  | [], _, _, h => absurd rfl h
  | [r], n, last, _ => by
    show ([nextV r n last] : List Nat).getD 0 0 = nextV r n last
    exact List.getD_cons_zero
  | r :: q :: l, n, last, _ => by
    have h := linksV_last (q :: l) (n + 1) (nextV r n last) (by simp)
    show (nextV r n last :: linksV (q :: l) (n + 1) (nextV r n last)).getD (l.length + 1) 0 = lastV (q :: l) (n + 1) (nextV r n last)
    rw [List.getD_cons_succ]
    exact h
end Go.Proofs.YtpmjlaiafgbjgaaDoor
end

section
namespace Go.Proofs.YtpmjlaiafgbjgaaDoor
open Go.RowKit

def u32v (l : List Nat) : List Value := l.map fun (x : Nat) => Value.int .u32 (x : Int)
set_option maxRecDepth 100000 in
set_option maxHeartbeats 1000000 in
theorem last_none (xb : Nat) (K : Option Addr) (ck : Nat) (w : World) (h2 : w.cell? ⟨xb, 2, none⟩ = some (.slice K 0 ck)) : Calls Tryd.prog 64 #[.pointer (some ⟨xb, 0, none⟩)] w fun e w' => e = .returned (.int .u32 (startV : Int)) ∧ Within w w' := by
  go_enter Tryd.func64, Tryd.ntmps64
  go_wp2_with fail
  refine (begin_any _).mono ?_; rintro e1 w1 ⟨rfl, h1⟩
  go_wp2
  go_ret
  exact ⟨rfl, (by repeat (first | with_reducible exact Within.refl _ | with_reducible assumption | with_reducible refine Within.alloc ?_ _ | with_reducible refine Within.drew ?_ | with_reducible refine Within.drewN ?_ _ | with_reducible refine Within.setCell ?_ (by first | (simp; done) | (simp; omega)) _ | with_reducible refine Within.trans ?_ (by assumption)))⟩

set_option maxRecDepth 100000 in
set_option maxHeartbeats 1000000 in
theorem last_some (xb : Nat) (ad : Addr) (ck n x : Nat) (hn : n ≤ 1048576) (w : World) (h2 : w.cell? ⟨xb, 2, none⟩ = some (.slice (some ad) (n + 1) ck)) (hx : w.cell? (ad.add n) = some (.int .u32 (x : Int))) : Calls Tryd.prog 64 #[.pointer (some ⟨xb, 0, none⟩)] w fun e w' => e = .returned (.int .u32 (x : Int)) ∧ Within w w' := by
  have v1 : (0 : Int) < (n : Int) + 1 := by omega
  have v2 : (n : Int) + 1 - 1 = (n : Int) := by omega
  have v3 : (n : Int) < (n : Int) + 1 := by omega
  have v4 : n < n + 1 := by omega
  have v5 : (0 : Int) ≤ (n : Int) := by omega
  go_enter Tryd.func64, Tryd.ntmps64
  go_wp2
  go_ret
  exact ⟨rfl, (by repeat (first | with_reducible exact Within.refl _ | with_reducible assumption | with_reducible refine Within.alloc ?_ _ | with_reducible refine Within.drew ?_ | with_reducible refine Within.drewN ?_ _ | with_reducible refine Within.setCell ?_ (by first | (simp; done) | (simp; omega)) _ | with_reducible refine Within.trans ?_ (by assumption)))⟩

end Go.Proofs.YtpmjlaiafgbjgaaDoor
end
