/- What the law's walk rests on, part 5: contracts of functions and plain facts. -/
import Derived.Test.YtpmjlaiafgbjgaaGreatDoorRows
import Derived.WalkKit
import Derived.WalkSpells
import Derived.WalkLawsBesides
import Derived.BigQuiet
import Derived.Lib.Hide
import Ieee.Arith
import Derived.Lib.TrailingZeros
import Derived.Lib.BitFns
import Derived.Lib.Strings
import Derived.Lib.Slices
import Derived.Lib.Small
import Derived.Lib.Walk
import Derived.OwnWalk
import Derived.Maps.AppendAt
import Derived.Laws.OwnMore
import Derived.Deep.AppendLies
import Derived.Deep.Draws
import Derived.OrdersHeld
import Derived.StillTail
import Derived.Deep.RegionHeld3
import Derived.Deep.DeepCutAuto
import Derived.IntWalk
import Derived.Maps.Range
import Derived.Maps.RangeWalk
import Derived.Laws.BytesArg
import Derived.Laws.Strings
import Derived.Lib.SlBytesConst
import Derived.RangeFuncNested
import Derived.RangeFuncBound
import Derived.RangeFuncCalls
import Derived.RangeFuncLeaves
import Derived.OwnWalkIn
import Derived.Shelf.Abstract
import Derived.Shelf.RegionOpen
import Derived.TacticsInMore
import Derived.LoopNIn
import Derived.LoopIn
import Derived.RangeFuncBox
import Derived.Laws.IdiomStrings
import Derived.ProofKit
import Derived.OpenShut
import Derived.ShutString
import Derived.ChangeOld
import Derived.ChangeSlices
import Derived.Below
import Derived.Carry
import Derived.SizedLaws
import Derived.Deep.DeepHandedRow
import Derived.Deep.Strs
import Derived.Lib.LaidTab
import Derived.Lib.SmallJoins
import Derived.Deep.Slices
import Derived.Test.YtpmjlaiafgbjgaaGreatDoorZDoes4
set_option linter.unusedVariables false
set_option linter.unusedSimpArgs false
section
namespace Go.Proofs.YtpmjlaiafgbjgaaGreatDoor
open Go.RowKit
def NxC (w : World) (rb : Nat) (bv : Value) (a k : Nat) (lv : Value) : Prop := w.cell? ⟨rb, 0, none⟩ = some bv ∧ w.cell? ⟨rb, 1, none⟩ = some (.int .i64 (a : Int)) ∧ w.cell? ⟨rb, 2, none⟩ = some (.int .u32 (k : Int)) ∧ w.cell? ⟨rb, 3, none⟩ = some lv ∧ ∀ o, w.frozen? ⟨rb, o, none⟩ = false
theorem NxC.lt {w : World} {rb : Nat} {bv : Value} {a k : Nat} {lv : Value} (h : NxC w rb bv a k lv) : rb < w.heap.size := World.block_lt_of_cell? _ _ h.1
theorem NxC.of {w w' : World} {rb : Nat} {bv : Value} {a k : Nat} {lv : Value} (h : NxC w rb bv a k lv) (i : Within w w') : NxC w' rb bv a k lv := by
  have hb := h.lt
  obtain ⟨h0, h1, h2, h3, h4⟩ := h
  exact ⟨(i.cells _ _ hb).trans h0, (i.cells _ _ hb).trans h1, (i.cells _ _ hb).trans h2, (i.cells _ _ hb).trans h3, fun o => (i.frozens _ _ hb).trans (h4 o)⟩
theorem NxC.grown {w w' : World} {row : Option Nat} {rb : Nat} {bv : Value} {a k : Nat} {lv : Value} (h : NxC w rb bv a k lv) (i : w.grownBy w' row) (hne : row ≠ some rb) : NxC w' rb bv a k lv := by
  have hb := h.lt
  obtain ⟨h0, h1, h2, h3, h4⟩ := h
  exact ⟨i.cell h0 (Ne.symm hne), i.cell h1 (Ne.symm hne), i.cell h2 (Ne.symm hne), i.cell h3 (Ne.symm hne), fun o => (World.frozen?_of_block (i.block rb hb (Ne.symm hne))).trans (h4 o)⟩
theorem NxC.list {w : World} {rb : Nat} {bv : Value} {a k : Nat} {lv : Value} (h : NxC w rb bv a k lv) (u : Value) : NxC (w.setCell ⟨rb, 3, none⟩ u) rb bv a k u := by
  obtain ⟨h0, h1, h2, h3, h4⟩ := h
  refine ⟨?_, ?_, ?_, World.cell?_setCell_same _ _ _ h3, fun o => by rw [World.frozen?_setCell]; exact h4 o⟩
  · rw [World.cell?_setCell_other _ _ _ _ (by simp)]; exact h0
  · rw [World.cell?_setCell_other _ _ _ _ (by simp)]; exact h1
  · rw [World.cell?_setCell_other _ _ _ _ (by simp)]; exact h2
theorem NxC.place {w : World} {rb : Nat} {bv : Value} {a k : Nat} {lv : Value} (h : NxC w rb bv a k lv) (x : Nat) : NxC (w.setCell ⟨rb, 1, none⟩ (.int .i64 (x : Int))) rb bv x k lv := by
  obtain ⟨h0, h1, h2, h3, h4⟩ := h
  refine ⟨?_, World.cell?_setCell_same _ _ _ h1, ?_, ?_, fun o => by rw [World.frozen?_setCell]; exact h4 o⟩
  · rw [World.cell?_setCell_other _ _ _ _ (by simp)]; exact h0
  · rw [World.cell?_setCell_other _ _ _ _ (by simp)]; exact h2
  · rw [World.cell?_setCell_other _ _ _ _ (by simp)]; exact h3
theorem NxC.link {w : World} {rb : Nat} {bv : Value} {a k : Nat} {lv : Value} (h : NxC w rb bv a k lv) (x : Nat) : NxC (w.setCell ⟨rb, 2, none⟩ (.int .u32 (x : Int))) rb bv a x lv := by
  obtain ⟨h0, h1, h2, h3, h4⟩ := h
  refine ⟨?_, ?_, World.cell?_setCell_same _ _ _ h2, ?_, fun o => by rw [World.frozen?_setCell]; exact h4 o⟩
  · rw [World.cell?_setCell_other _ _ _ _ (by simp)]; exact h0
  · rw [World.cell?_setCell_other _ _ _ _ (by simp)]; exact h1
  · rw [World.cell?_setCell_other _ _ _ _ (by simp)]; exact h3
def NextPost (w : World) (rb B : Nat) (bv : Value) (left : List Nat) (a k : Nat) (rs : List Rec) (e : Ending) (w' : World) : Prop :=
  (left = [] ∧ e = .returned (.tuple #[.int .i64 0, .bool false]) ∧ Within w w') ∨
  (left ≠ [] ∧ whyV pf left rs.length k ≠ 0 ∧ e = .returned (.tuple #[.int .i64 (whyV pf left rs.length k : Int), .bool false]) ∧ Within w w') ∨
  (whyV pf left rs.length k = 0 ∧ e = .returned (.tuple #[.int .i64 0, .bool true]) ∧ ∃ lv, NxC w' rb bv (a + (endV left + 4)) (linkV k (left.take (endV left))) lv ∧ RecsO w' B lv ((rs ++ [recV left]).map Rec.i) ∧ ButS (fun j => j = rb ∨ B ≤ j) w w')
theorem wp_region_schT {P : Program} {ops : Array Oper} {Q : Exit → Act → World → Prop} {id : Nat} {a : Act} {w : World} (T : Nat → Prop) (F : World → Prop) (p : Nat) (t : Sch) (hm : P.follows .mixedOrders = true) (hB : t.okAll ops p = true) (hF : F w)
    (h : ∀ w0, F w0 → wpSch P ops (OnlyN Q) (ButS T w0) p t a w0.drew) : (Code.region id ops true).wp P Q a w := wp_region_sch (ButS T w) p t hm hB ((ButS.refl T w).drew) fun _ => h w hF
theorem NextPost.rec_ {w w' : World} {rb B : Nat} {bv lv : Value} {left : List Nat} {a k : Nat} {rs : List Rec} (h : whyV pf left rs.length k = 0) (h1 : NxC w' rb bv (a + (endV left + 4)) (linkV k (left.take (endV left))) lv) (h2 : RecsO w' B lv ((rs ++ [recV left]).map Rec.i)) (h3 : ButS (fun j => j = rb ∨ B ≤ j) w w') : NextPost w rb B bv left a k rs (.returned (.tuple #[.int .i64 0, .bool true])) w' := .inr (.inr ⟨h, rfl, lv, h1, h2, h3⟩)
theorem why_few {b : List Nat} {n k : Nat} (h : b.length < 13) : whyV pf b n k = 2 := by unfold whyV; rw [if_pos h]
theorem why_sum {b : List Nat} {n k : Nat} (h : ¬ b.length < 13) (h2 : at4 b 9 ≠ linkV k (b.take 9)) : whyV pf b n k = 4 := by unfold whyV; rw [if_neg h, if_pos h2]
theorem why_form {b : List Nat} {n k : Nat} (h : ¬ b.length < 13) (h2 : ¬ at4 b 9 ≠ linkV k (b.take 9)) (h3 : b.getD 0 0 < 1 ∨ 3 < b.getD 0 0 ∨ at4 b 1 ≠ n ∨ 1048576 < at4 b 5 ∨ 1048576 ≤ n) : whyV pf b n k = 3 := by unfold whyV; rw [if_neg h, if_neg h2, if_pos h3]
theorem why_short {b : List Nat} {n k : Nat} (h : ¬ b.length < 13) (h2 : ¬ at4 b 9 ≠ linkV k (b.take 9)) (h3 : ¬ (b.getD 0 0 < 1 ∨ 3 < b.getD 0 0 ∨ at4 b 1 ≠ n ∨ 1048576 < at4 b 5 ∨ 1048576 ≤ n)) (h4 : b.length < endV b + 4) : whyV pf b n k = 2 := by unfold whyV; rw [if_neg h, if_neg h2, if_neg h3, if_pos h4]
theorem why_link {b : List Nat} {n k : Nat} (h : ¬ b.length < 13) (h2 : ¬ at4 b 9 ≠ linkV k (b.take 9)) (h3 : ¬ (b.getD 0 0 < 1 ∨ 3 < b.getD 0 0 ∨ at4 b 1 ≠ n ∨ 1048576 < at4 b 5 ∨ 1048576 ≤ n)) (h4 : ¬ b.length < endV b + 4) (h5 : at4 b (endV b) ≠ linkV k (b.take (endV b))) : whyV pf b n k = 4 := by unfold whyV; rw [if_neg h, if_neg h2, if_neg h3, if_neg h4, if_pos h5]
theorem why_rec {b : List Nat} {n k : Nat} (h : ¬ b.length < 13) (h2 : ¬ at4 b 9 ≠ linkV k (b.take 9)) (h3 : ¬ (b.getD 0 0 < 1 ∨ 3 < b.getD 0 0 ∨ at4 b 1 ≠ n ∨ 1048576 < at4 b 5 ∨ 1048576 ≤ n)) (h4 : ¬ b.length < endV b + 4) (h5 : ¬ at4 b (endV b) ≠ linkV k (b.take (endV b))) : whyV pf b n k = if checkR pf (b.getD 0 0) ((b.drop 13).take (at4 b 5)) ≠ 0 then 3 else 0 := by unfold whyV; rw [if_neg h, if_neg h2, if_neg h3, if_neg h4, if_neg h5]
theorem at4_lt {b : List Nat} (hb : Bytes b) (i : Nat) : at4 b i < 4294967296 := by
  have h := leVal_lt ((hb.drop i).take 4)
  have hl : ((b.drop i).take 4).length ≤ 4 := by rw [List.length_take]; exact Nat.min_le_left _ _
  exact Nat.lt_of_lt_of_le h (by rw [show (4294967296 : Nat) = 2 ^ 32 from rfl]; exact Nat.pow_le_pow_right (by decide) (by omega))
theorem NextPost.none_ {w w' : World} {rb B : Nat} {bv : Value} {left : List Nat} {a k : Nat} {rs : List Rec} (h : left = []) (hw : Within w w') : NextPost w rb B bv left a k rs (.returned (.tuple #[.int .i64 0, .bool false])) w' := .inl ⟨h, rfl, hw⟩
theorem NextPost.why {w w' : World} {rb B : Nat} {bv : Value} {left : List Nat} {a k y : Nat} {rs : List Rec} (h0 : left ≠ []) (h : whyV pf left rs.length k = y) (hy : y ≠ 0) (hw : Within w w') : NextPost w rb B bv left a k rs (.returned (.tuple #[.int .i64 (y : Int), .bool false])) w' := .inr (.inl ⟨h0, by rw [h]; exact hy, by rw [h], hw⟩)
theorem left_at {w : World} {ad : Addr} {b : List Nat} (hr : SlAt w (some ad) (u8v b)) (a : Nat) : SlAt w (some (ad.add a)) (u8v (b.drop a)) := by have := hr.drop a; unfold u8v at this ⊢; rwa [← List.map_drop] at this
set_option maxRecDepth 100000 in
set_option maxHeartbeats 4000000 in
theorem next_any (rb B : Nat) (ad : Addr) (cb : Nat) (b : List Nat) (hb : Bytes b) (a k : Nat) (rs : List Rec) (hlen : b.length ≤ 140737488355328) (hcb : b.length ≤ cb) (ha : a ≤ b.length) (hk : k < 4294967296) (hrs : rs.length ≤ 1048576) (hrB : rb < B) (lv : Value) (w : World) (hB : B ≤ w.heap.size) (hT : FmS w) (hC : NxC w rb (.slice (some ad) b.length cb) a k lv) (hL : RecsO w B lv (rs.map Rec.i)) (hr : SlAt w (some ad) (u8v b)) : Calls Tryz.prog 60 #[.pointer (some ⟨rb, 0, none⟩)] w (NextPost w rb B (.slice (some ad) b.length cb) (b.drop a) a k rs) := by
  obtain ⟨Al, cl, rfl, hcl, _, _, _⟩ := hL.at
  rw [List.length_map] at hcl hC hL
  have hrb := hC.lt
  obtain ⟨p0, p1, p2, p3, pf0⟩ := hC
  obtain ⟨left, hleft⟩ : ∃ l, b.drop a = l := ⟨_, rfl⟩
  have hll : left.length = b.length - a := by rw [← hleft, List.length_drop]
  have hls := left_at hr a
  rw [hleft] at hls ⊢
  have hlb : Bytes left := by rw [← hleft]; exact hb.drop a
  obtain ⟨N, hN⟩ : ∃ N, b.length = N := ⟨_, rfl⟩
  rw [hN] at hlen hcb ha hll p0 ⊢
  clear hN
  obtain ⟨n, hn⟩ : ∃ n, rs.length = n := ⟨_, rfl⟩
  rw [hn] at hcl hrs p3 hL
  have a1 : (a : Int) ≤ (N : Int) := by omega
  have a2 : (a : Int) ≤ (cb : Int) := by omega
  have a0 : (0 : Int) ≤ (a : Int) := by omega
  have a3 : (N : Int) ≤ (cb : Int) := by omega
  have HRB := Lib.hid hrb; have HN := Lib.hid hn; have HT := Lib.hid hT; have HLB := Lib.hid hlb; have HLS := Lib.hid hls; have HLL := Lib.hid hll; have HRL := Lib.hid hL; have HPF := Lib.hid pf0; clear hn hT hlb hls hll hL hr hb hleft pf0
  rcases Nat.eq_zero_or_pos left.length with h0 | h0
  · have hnil : left = [] := List.eq_nil_of_length_eq_zero h0
    obtain rfl : N = a := by have := HLL.out; omega
    have HNIL := Lib.hid hnil; clear hnil h0
    rcases Decidable.em (cb = N) with hc | hc
    all_goals
      go_enter Tryz.func60, Tryz.ntmps60
      go_wp2_with fail
      refine wp_region_schG (fun W => W.cell? ⟨rb, 0, none⟩ = some (.slice (some ad) (N) (cb)) ∧ W.cell? ⟨rb, 1, none⟩ = some (.int .i64 (N : Int)) ∧ W.cell? ⟨rb, 2, none⟩ = some (.int .u32 (k : Int)) ∧ W.cell? ⟨rb, 3, none⟩ = some (.slice Al n cl) ∧ rb < W.heap.size ∧ Within w W) 9 (.firm 0 (.firm 1 (.firm 2 (.firm 3 (.firm 4 (.firm 5 (.firm 6 (.firm 7 (.firm 8 (.one 9 .nil)))))))))) (by kernel_rfl) (by kernel_rfl) ⟨p0, p1, p2, p3, hrb, Within.refl _⟩ ?_
      rintro w0 ⟨p0, p1, p2, p3, hrb, hw0⟩
      try simp only [Act.put, List.setIfInBounds_toArray, List.set_cons_zero, List.set_cons_succ]
      iterate 9
        apply sch_firm rfl rfl (by repeat (first | with_reducible exact Within.refl _ | with_reducible assumption | with_reducible refine Within.alloc ?_ _ | with_reducible refine Within.drew ?_ | with_reducible refine Within.drewN ?_ _ | with_reducible refine Within.setCell ?_ (by first | (simp; done) | (simp; omega)) _ | with_reducible refine Within.trans ?_ (by assumption)))
        · intro wq hq
          have hcq := hq.cells
          clear hq
          go_simp
          rfl
        try simp only [Act.put, List.setIfInBounds_toArray, List.set_cons_zero, List.set_cons_succ]
      refine sch_one rfl rfl (fun K hK => ?_)
      go_simp
      refine hK _ _ (fun h => absurd h (by decide)) ?_
      clear hK K
      try simp only [Act.put, List.setIfInBounds_toArray, List.set_cons_zero, List.set_cons_succ]
      refine sch_nil ?_
      go_wp2
      go_ret2
      exact NextPost.none_ HNIL.out (by repeat (first | with_reducible exact Within.refl _ | with_reducible assumption | with_reducible refine Within.alloc ?_ _ | with_reducible refine Within.drew ?_ | with_reducible refine Within.drewN ?_ _ | with_reducible refine Within.setCell ?_ (by first | (simp; done) | (simp; omega)) _ | with_reducible refine Within.trans ?_ (by assumption)))
  have hne : left ≠ [] := fun h => by rw [h] at h0; simp at h0
  obtain ⟨C, hC⟩ : ∃ C, cb = a + C := ⟨cb - a, by omega⟩
  subst hC
  obtain ⟨LR, hLR⟩ : ∃ LR, left.length = LR := ⟨_, rfl⟩
  obtain rfl : N = a + LR := by have := HLL.out; omega
  have hRC : LR ≤ C := by omega
  have c0 : ¬ C = 0 := by omega
  have r0 : ¬ LR = 0 := by omega
  have hca : ¬ a + C = a := by omega
  have HNE := Lib.hid hne; have HLR := Lib.hid hLR; clear hne hLR h0 a1 a2 a3
  have a1 : (a : Int) ≤ (a : Int) + (LR : Int) := by omega
  have a2 : (a : Int) ≤ (a : Int) + (C : Int) := by omega
  have a3 : (a : Int) + (LR : Int) ≤ (a : Int) + (C : Int) := by omega
  by_cases h13 : left.length < 13
  · have HW := Lib.hid (why_few (n := rs.length) (k := k) h13)
    have l13 : LR < 13 := by rw [← HLR.out]; exact h13
    clear h13
    go_enter Tryz.func60, Tryz.ntmps60
    go_wp2_with fail
    refine wp_region_schG (fun W => W.cell? ⟨rb, 0, none⟩ = some (.slice (some ad) (a + LR) (a + C)) ∧ W.cell? ⟨rb, 1, none⟩ = some (.int .i64 (a : Int)) ∧ W.cell? ⟨rb, 2, none⟩ = some (.int .u32 (k : Int)) ∧ W.cell? ⟨rb, 3, none⟩ = some (.slice Al n cl) ∧ rb < W.heap.size ∧ Within w W) 9 (.firm 0 (.firm 1 (.firm 2 (.firm 3 (.firm 4 (.firm 5 (.firm 6 (.firm 7 (.firm 8 (.one 9 .nil)))))))))) (by kernel_rfl) (by kernel_rfl) ⟨p0, p1, p2, p3, hrb, Within.refl _⟩ ?_
    rintro w0 ⟨p0, p1, p2, p3, hrb, hw0⟩
    try simp only [Act.put, List.setIfInBounds_toArray, List.set_cons_zero, List.set_cons_succ]
    iterate 9
      apply sch_firm rfl rfl (by repeat (first | with_reducible exact Within.refl _ | with_reducible assumption | with_reducible refine Within.alloc ?_ _ | with_reducible refine Within.drew ?_ | with_reducible refine Within.drewN ?_ _ | with_reducible refine Within.setCell ?_ (by first | (simp; done) | (simp; omega)) _ | with_reducible refine Within.trans ?_ (by assumption)))
      · intro wq hq
        have hcq := hq.cells
        clear hq
        go_simp
        rfl
      try simp only [Act.put, List.setIfInBounds_toArray, List.set_cons_zero, List.set_cons_succ]
    refine sch_one rfl rfl (fun K hK => ?_)
    go_simp
    refine hK _ _ (fun h => absurd h (by decide)) ?_
    clear hK K
    try simp only [Act.put, List.setIfInBounds_toArray, List.set_cons_zero, List.set_cons_succ]
    refine sch_nil ?_
    go_wp2
    go_ret2
    exact NextPost.why HNE.out HW.out (by decide) (by repeat (first | with_reducible exact Within.refl _ | with_reducible assumption | with_reducible refine Within.alloc ?_ _ | with_reducible refine Within.drew ?_ | with_reducible refine Within.drewN ?_ _ | with_reducible refine Within.setCell ?_ (by first | (simp; done) | (simp; omega)) _ | with_reducible refine Within.trans ?_ (by assumption)))
  obtain ⟨m, hm⟩ : ∃ m, LR = m + 13 := ⟨LR - 13, by have := HLR.out; omega⟩
  subst hm
  have a1 : (a : Int) ≤ (a : Int) + ((m : Int) + 13) := by omega
  have a3 : (a : Int) + ((m : Int) + 13) ≤ (a : Int) + (C : Int) := by omega
  have H13 := Lib.hid h13; clear h13
  obtain ⟨la, hla⟩ : ∃ la, la = ad.add a := ⟨_, rfl⟩
  rw [← hla] at HLS
  have NB : Hid (∀ (W : World) (i nn cc : Nat), i ≠ 0 → i + 4 ≤ m + 13 → 4 ≤ nn → SlAt W (some la) (u8v left) → Calls Tryz.prog 81 #[.slice (some (la.add i)) nn cc] W fun e w' => e = .returned (.int .u32 (at4 left i : Int)) ∧ Within W w') := Lib.hid (fun W i nn cc _ hi hn h => by have := number_any (la.add i) nn cc (left.drop i) (HLB.out.drop i) (by rw [List.length_drop, HLR.out]; omega) hn W (left_at h i); exact this)
  have SB : Hid (∀ (W : World) (i : Nat), i ≤ m + 13 → i ≤ 1048600 → SlAt W (some la) (u8v left) → Calls Tryz.prog 80 #[.int .u32 (k : Int), .slice (some la) i C] W fun e w' => e = .returned (.int .u32 (linkV k (left.take i) : Int)) ∧ Within W w') := Lib.hid (fun W i hi hi2 h => by
    have hl : (left.take i).length = i := by rw [List.length_take, HLR.out]; omega
    have h2 : SlAt W (some la) (u8v (left.take i)) := by have := h.take i; unfold u8v at this ⊢; rwa [← List.map_take] at this
    have := jsum_any k hk (some la) C (left.take i) (HLB.out.take i) (by omega) W h2; rw [hl] at this; exact this)
  obtain ⟨x, hx⟩ : ∃ x, left.getD 0 0 = x := ⟨_, rfl⟩
  have KX : Hid (∀ W, SlAt W (some la) (u8v left) → W.cell? la = some (.int .u8 (x : Int))) := Lib.hid (fun W h => by obtain ⟨ad', e', _, hc⟩ := SlAt.at (l := left) (k := 0) (by exact h) (by rw [HLR.out]; omega); obtain rfl := Option.some.inj e'; rw [add_nought, hx] at hc; exact hc)
  have hxl : x < 256 := by rw [← hx]; exact HLB.out.at (by rw [HLR.out]; omega)
  obtain ⟨s1, hs1⟩ : ∃ s, at4 left 9 = s := ⟨_, rfl⟩
  obtain ⟨l1, hl1⟩ : ∃ s, linkV k (left.take 9) = s := ⟨_, rfl⟩
  obtain ⟨sz, hsz⟩ : ∃ s, at4 left 5 = s := ⟨_, rfl⟩
  obtain ⟨q, hq⟩ : ∃ s, at4 left 1 = s := ⟨_, rfl⟩
  have hszl : sz < 4294967296 := by rw [← hsz]; exact at4_lt HLB.out 5
  have hql : q < 4294967296 := by rw [← hq]; exact at4_lt HLB.out 1
  have NB9 := Lib.hid (fun W => NB.out W 9 (m + 4) (C - 9) (by decide) (by omega) (by omega))
  have NB5 := Lib.hid (fun W => NB.out W 5 (m + 8) (C - 5) (by decide) (by omega) (by omega))
  have NB1 := Lib.hid (fun W => NB.out W 1 (m + 12) (C - 1) (by decide) (by omega) (by omega))
  rw [hs1, add_plain' la (by decide)] at NB9
  rw [hsz, add_plain' la (by decide)] at NB5
  rw [hq, add_plain' la (by decide)] at NB1
  have SB9 := Lib.hid (fun W => SB.out W 9 (by omega) (by omega))
  rw [hl1] at SB9
  have HX := Lib.hid hx; have HS1 := Lib.hid hs1; have HL1 := Lib.hid hl1; have HSZ := Lib.hid hsz; have HQ := Lib.hid hq; clear hx hs1 hl1 hsz hq
  have e1 : (1 : Int) ≤ (m : Int) + 13 := by omega
  have e5 : (5 : Int) ≤ (m : Int) + 13 := by omega
  have e9 : (9 : Int) ≤ (m : Int) + 13 := by omega
  have f1 : (1 : Int) ≤ (C : Int) := by omega
  have f5 : (5 : Int) ≤ (C : Int) := by omega
  have f9 : (9 : Int) ≤ (C : Int) := by omega
  have g1 : ¬ C = 1 := by omega
  have g5 : ¬ C = 5 := by omega
  have g9 : ¬ C = 9 := by omega
  have e0' : (m : Int) + 13 ≤ (C : Int) := by omega
  have z0 : (0 : Int) < (m : Int) + 13 := by omega
  have h1 : 1 ≤ m + 13 := by omega
  have h5 : 5 ≤ m + 13 := by omega
  have h9 : 9 ≤ m + 13 := by omega
  have i1 : 1 ≤ C := by omega
  have i5 : 5 ≤ C := by omega
  have i9 : 9 ≤ C := by omega
  by_cases hsum : s1 = l1
  · obtain rfl := hsum
    have n1 : ((s1 : Int) != (s1 : Int)) = false := by simp
    have HSE : Hid (¬ at4 left 9 ≠ linkV k (left.take 9)) := Lib.hid (by rw [HS1.out, HL1.out]; exact fun h => h rfl)
    have cx : IntKind.i64.wrap (x : Int) = (x : Int) := by rw [IntKind.wrap_i64]; omega
    have cn : IntKind.i64.wrap (n : Int) = (n : Int) := by rw [IntKind.wrap_i64]; omega
    have cq : IntKind.i64.wrap (q : Int) = (q : Int) := by rw [IntKind.wrap_i64]; omega
    go_enter Tryz.func60, Tryz.ntmps60
    go_wp2_with fail
    refine wp_region_schG (fun W => W.cell? ⟨rb, 0, none⟩ = some (.slice (some ad) (a + (m + 13)) (a + C)) ∧ W.cell? ⟨rb, 1, none⟩ = some (.int .i64 (a : Int)) ∧ W.cell? ⟨rb, 2, none⟩ = some (.int .u32 (k : Int)) ∧ W.cell? ⟨rb, 3, none⟩ = some (.slice Al n cl) ∧ rb < W.heap.size ∧ Within w W) 9 (.firm 0 (.firm 1 (.firm 2 (.firm 3 (.firm 4 (.firm 5 (.firm 6 (.firm 7 (.firm 8 (.one 9 .nil)))))))))) (by kernel_rfl) (by kernel_rfl) ⟨p0, p1, p2, p3, hrb, Within.refl _⟩ ?_
    rintro w0 ⟨p0, p1, p2, p3, hrb, hwr⟩
    try simp only [Act.put, List.setIfInBounds_toArray, List.set_cons_zero, List.set_cons_succ]
    iterate 9
      apply sch_firm rfl rfl (by repeat (first | with_reducible exact Within.refl _ | with_reducible assumption | with_reducible refine Within.alloc ?_ _ | with_reducible refine Within.drew ?_ | with_reducible refine Within.drewN ?_ _ | with_reducible refine Within.setCell ?_ (by first | (simp; done) | (simp; omega)) _ | with_reducible refine Within.trans ?_ (by assumption)))
      · intro wq hq
        have hcq := hq.cells
        clear hq
        go_simp
        rfl
      try simp only [Act.put, List.setIfInBounds_toArray, List.set_cons_zero, List.set_cons_succ]
    refine sch_one rfl rfl (fun K hK => ?_)
    go_simp
    refine hK _ _ (fun h => absurd h (by decide)) ?_
    clear hK K
    try simp only [Act.put, List.setIfInBounds_toArray, List.set_cons_zero, List.set_cons_succ]
    refine sch_nil ?_
    rw [← hla]
    clear hla
    have hxx : Within w0 w0.drew := (by repeat (first | with_reducible exact Within.refl _ | with_reducible assumption | with_reducible refine Within.alloc ?_ _ | with_reducible refine Within.drew ?_ | with_reducible refine Within.drewN ?_ _ | with_reducible refine Within.setCell ?_ (by first | (simp; done) | (simp; omega)) _ | with_reducible refine Within.trans ?_ (by assumption)))
    have p0 := (hxx.cells _ _ hrb).trans p0
    have p1 := (hxx.cells _ _ hrb).trans p1
    have p2 := (hxx.cells _ _ hrb).trans p2
    have p3 := (hxx.cells _ _ hrb).trans p3
    have hrb := Nat.lt_of_lt_of_le hrb hxx.size
    have HWN : Hid (Within w w0.drew) := Lib.hid (hwr.trans hxx)
    clear hxx hwr
    go_wp2_with fail
    refine wp_region_schG (fun W => W.cell? ⟨rb, 0, none⟩ = some (.slice (some ad) (a + (m + 13)) (a + C)) ∧ W.cell? ⟨rb, 1, none⟩ = some (.int .i64 (a : Int)) ∧ W.cell? ⟨rb, 2, none⟩ = some (.int .u32 (k : Int)) ∧ W.cell? ⟨rb, 3, none⟩ = some (.slice Al n cl) ∧ rb < W.heap.size ∧ SlAt W (some la) (u8v left) ∧ Within w W) 10 (.firm 0 (.firm 1 (.firm 3 (.firm 4 (.firm 5 (.firm 6 (.firm 7 (.firm 8 (.one 2 (.one 9 (.one 10 .nil))))))))))) (by kernel_rfl) (by kernel_rfl) ⟨p0, p1, p2, p3, hrb, HLS.out.of HWN.out, HWN.out⟩ ?_
    rintro w0 ⟨p0, p1, p2, p3, hrb, hls, hwr⟩
    try simp only [Act.put, List.setIfInBounds_toArray, List.set_cons_zero, List.set_cons_succ]
    iterate 8
      apply sch_firm rfl rfl (by repeat (first | with_reducible exact Within.refl _ | with_reducible assumption | with_reducible refine Within.alloc ?_ _ | with_reducible refine Within.drew ?_ | with_reducible refine Within.drewN ?_ _ | with_reducible refine Within.setCell ?_ (by first | (simp; done) | (simp; omega)) _ | with_reducible refine Within.trans ?_ (by assumption)))
      · intro wq hq
        have hcq := hq.cells
        clear hq
        go_simp
        rfl
      try simp only [Act.put, List.setIfInBounds_toArray, List.set_cons_zero, List.set_cons_succ]
    refine sch_one rfl rfl (fun K hK => ?_)
    go_simp
    refine (NB9.out _ (by exact hls.of (by repeat (first | with_reducible exact Within.refl _ | with_reducible assumption | with_reducible refine Within.alloc ?_ _ | with_reducible refine Within.drew ?_ | with_reducible refine Within.drewN ?_ _ | with_reducible refine Within.setCell ?_ (by first | (simp; done) | (simp; omega)) _ | with_reducible refine Within.trans ?_ (by assumption))))).mono ?_; rintro e2 w2 ⟨rfl, h2⟩
    refine hK _ _ (fun _ => (by repeat (first | with_reducible exact Within.refl _ | with_reducible assumption | with_reducible refine Within.alloc ?_ _ | with_reducible refine Within.drew ?_ | with_reducible refine Within.drewN ?_ _ | with_reducible refine Within.setCell ?_ (by first | (simp; done) | (simp; omega)) _ | with_reducible refine Within.trans ?_ (by assumption)))) ?_
    clear hK K
    try simp only [Act.put, List.setIfInBounds_toArray, List.set_cons_zero, List.set_cons_succ]
    refine sch_one rfl rfl (fun K hK => ?_)
    go_simp
    refine (SB9.out _ (by exact hls.of (by repeat (first | with_reducible exact Within.refl _ | with_reducible assumption | with_reducible refine Within.alloc ?_ _ | with_reducible refine Within.drew ?_ | with_reducible refine Within.drewN ?_ _ | with_reducible refine Within.setCell ?_ (by first | (simp; done) | (simp; omega)) _ | with_reducible refine Within.trans ?_ (by assumption))))).mono ?_; rintro e3 w3 ⟨rfl, h3⟩
    refine hK _ _ (fun _ => (by repeat (first | with_reducible exact Within.refl _ | with_reducible assumption | with_reducible refine Within.alloc ?_ _ | with_reducible refine Within.drew ?_ | with_reducible refine Within.drewN ?_ _ | with_reducible refine Within.setCell ?_ (by first | (simp; done) | (simp; omega)) _ | with_reducible refine Within.trans ?_ (by assumption)))) ?_
    clear hK K
    try simp only [Act.put, List.setIfInBounds_toArray, List.set_cons_zero, List.set_cons_succ]
    refine sch_one rfl rfl (fun K hK => ?_)
    go_simp
    refine hK _ _ (fun h => absurd h (by decide)) ?_
    clear hK K
    try simp only [Act.put, List.setIfInBounds_toArray, List.set_cons_zero, List.set_cons_succ]
    refine sch_nil ?_
    have hxx : Within w0 w3 := (by repeat (first | with_reducible exact Within.refl _ | with_reducible assumption | with_reducible refine Within.alloc ?_ _ | with_reducible refine Within.drew ?_ | with_reducible refine Within.drewN ?_ _ | with_reducible refine Within.setCell ?_ (by first | (simp; done) | (simp; omega)) _ | with_reducible refine Within.trans ?_ (by assumption)))
    have p0 := (hxx.cells _ _ hrb).trans p0
    have p1 := (hxx.cells _ _ hrb).trans p1
    have p2 := (hxx.cells _ _ hrb).trans p2
    have p3 := (hxx.cells _ _ hrb).trans p3
    have hrb := Nat.lt_of_lt_of_le hrb hxx.size
    have HWN : Hid (Within w w3) := Lib.hid (hwr.trans hxx)
    clear hxx hwr
    clear h2 h3 hls
    go_wp2_with fail
    refine wp_region_schG (fun W => W.cell? ⟨rb, 0, none⟩ = some (.slice (some ad) (a + (m + 13)) (a + C)) ∧ W.cell? ⟨rb, 1, none⟩ = some (.int .i64 (a : Int)) ∧ W.cell? ⟨rb, 2, none⟩ = some (.int .u32 (k : Int)) ∧ W.cell? ⟨rb, 3, none⟩ = some (.slice Al n cl) ∧ rb < W.heap.size ∧ SlAt W (some la) (u8v left) ∧ Within w W) 8 (.firm 0 (.firm 1 (.firm 2 (.firm 3 (.firm 4 (.firm 5 (.one 6 (.firm 7 (.one 8 .nil))))))))) (by kernel_rfl) (by kernel_rfl) ⟨p0, p1, p2, p3, hrb, HLS.out.of HWN.out, HWN.out⟩ ?_
    rintro w0 ⟨p0, p1, p2, p3, hrb, hls, hwr⟩
    try simp only [Act.put, List.setIfInBounds_toArray, List.set_cons_zero, List.set_cons_succ]
    iterate 6
      apply sch_firm rfl rfl (by repeat (first | with_reducible exact Within.refl _ | with_reducible assumption | with_reducible refine Within.alloc ?_ _ | with_reducible refine Within.drew ?_ | with_reducible refine Within.drewN ?_ _ | with_reducible refine Within.setCell ?_ (by first | (simp; done) | (simp; omega)) _ | with_reducible refine Within.trans ?_ (by assumption)))
      · intro wq hq
        have hcq := hq.cells
        have kx := KX.out wq (hls.of hq)
        clear hq
        go_simp
        rfl
      try simp only [Act.put, List.setIfInBounds_toArray, List.set_cons_zero, List.set_cons_succ]
    refine sch_one rfl rfl (fun K hK => ?_)
    go_simp
    refine (NB5.out _ (by exact hls.of (by repeat (first | with_reducible exact Within.refl _ | with_reducible assumption | with_reducible refine Within.alloc ?_ _ | with_reducible refine Within.drew ?_ | with_reducible refine Within.drewN ?_ _ | with_reducible refine Within.setCell ?_ (by first | (simp; done) | (simp; omega)) _ | with_reducible refine Within.trans ?_ (by assumption))))).mono ?_; rintro e3 w3 ⟨rfl, h3⟩
    refine hK _ _ (fun _ => (by repeat (first | with_reducible exact Within.refl _ | with_reducible assumption | with_reducible refine Within.alloc ?_ _ | with_reducible refine Within.drew ?_ | with_reducible refine Within.drewN ?_ _ | with_reducible refine Within.setCell ?_ (by first | (simp; done) | (simp; omega)) _ | with_reducible refine Within.trans ?_ (by assumption)))) ?_
    clear hK K
    try simp only [Act.put, List.setIfInBounds_toArray, List.set_cons_zero, List.set_cons_succ]
    apply sch_firm rfl rfl (by repeat (first | with_reducible exact Within.refl _ | with_reducible assumption | with_reducible refine Within.alloc ?_ _ | with_reducible refine Within.drew ?_ | with_reducible refine Within.drewN ?_ _ | with_reducible refine Within.setCell ?_ (by first | (simp; done) | (simp; omega)) _ | with_reducible refine Within.trans ?_ (by assumption)))
    · intro wq hq
      have hcq := hq.cells
      have kx := KX.out wq (hls.of hq)
      clear hq
      go_simp
      rfl
    try simp only [Act.put, List.setIfInBounds_toArray, List.set_cons_zero, List.set_cons_succ]
    refine sch_one rfl rfl (fun K hK => ?_)
    go_simp
    refine hK _ _ (fun h => absurd h (by decide)) ?_
    clear hK K
    try simp only [Act.put, List.setIfInBounds_toArray, List.set_cons_zero, List.set_cons_succ]
    refine sch_nil ?_
    have hxx : Within w0 w3 := (by repeat (first | with_reducible exact Within.refl _ | with_reducible assumption | with_reducible refine Within.alloc ?_ _ | with_reducible refine Within.drew ?_ | with_reducible refine Within.drewN ?_ _ | with_reducible refine Within.setCell ?_ (by first | (simp; done) | (simp; omega)) _ | with_reducible refine Within.trans ?_ (by assumption)))
    have p0 := (hxx.cells _ _ hrb).trans p0
    have p1 := (hxx.cells _ _ hrb).trans p1
    have p2 := (hxx.cells _ _ hrb).trans p2
    have p3 := (hxx.cells _ _ hrb).trans p3
    have hrb := Nat.lt_of_lt_of_le hrb hxx.size
    have HWN : Hid (Within w w3) := Lib.hid (hwr.trans hxx)
    clear hxx hwr
    clear h3 hls
    by_cases x1 : x < 1
    · have u1 : decide ((x : Int) < 1) = true := decide_eq_true (by omega)
      have HW := Lib.hid (why_form (b := left) (n := rs.length) (k := k) H13.out HSE.out (by rw [HX.out, HQ.out, HSZ.out, HN.out]; exact .inl x1))
      go_wp2_with fail
      refine wp_region_schG (fun W => W.cell? ⟨rb, 0, none⟩ = some (.slice (some ad) (a + (m + 13)) (a + C)) ∧ W.cell? ⟨rb, 1, none⟩ = some (.int .i64 (a : Int)) ∧ W.cell? ⟨rb, 2, none⟩ = some (.int .u32 (k : Int)) ∧ W.cell? ⟨rb, 3, none⟩ = some (.slice Al n cl) ∧ rb < W.heap.size ∧ SlAt W (some la) (u8v left) ∧ Within w W) 29 (.firm 0 (.firm 1 (.firm 2 (.firm 3 (.firm 4 (.firm 5 (.firm 6 (.firm 7 (.firm 8 (.firm 11 (.firm 12 (.firm 13 (.firm 14 (.firm 15 (.one 9 (.firm 10 (.firm 16 (.firm 17 (.firm 18 (.firm 19 (.firm 20 (.firm 21 (.firm 22 (.firm 23 (.firm 24 (.firm 25 (.firm 26 (.firm 27 (.firm 28 (.one 29 .nil)))))))))))))))))))))))))))))) (by kernel_rfl) (by kernel_rfl) ⟨p0, p1, p2, p3, hrb, HLS.out.of HWN.out, HWN.out⟩ ?_
      rintro w0 ⟨p0, p1, p2, p3, hrb, hls, hwr⟩
      try simp only [Act.put, List.setIfInBounds_toArray, List.set_cons_zero, List.set_cons_succ]
      iterate 3
        apply sch_firm rfl rfl (by repeat (first | with_reducible exact Within.refl _ | with_reducible assumption | with_reducible refine Within.alloc ?_ _ | with_reducible refine Within.drew ?_ | with_reducible refine Within.drewN ?_ _ | with_reducible refine Within.setCell ?_ (by first | (simp; done) | (simp; omega)) _ | with_reducible refine Within.trans ?_ (by assumption)))
        · intro wq hq
          have hcq := hq.cells
          clear hq
          go_simp
          rfl
        try simp only [Act.put, List.setIfInBounds_toArray, List.set_cons_zero, List.set_cons_succ]
      iterate 2
        refine sch_skip rfl (by first | rfl | decide | (simp [Region.wanted, yielded]; done)) (by repeat (first | with_reducible exact Within.refl _ | with_reducible assumption | with_reducible refine Within.alloc ?_ _ | with_reducible refine Within.drew ?_ | with_reducible refine Within.drewN ?_ _ | with_reducible refine Within.setCell ?_ (by first | (simp; done) | (simp; omega)) _ | with_reducible refine Within.trans ?_ (by assumption))) ?_
        try simp only [Act.put, List.setIfInBounds_toArray, List.set_cons_zero, List.set_cons_succ]
      iterate 2
        apply sch_firm rfl rfl (by repeat (first | with_reducible exact Within.refl _ | with_reducible assumption | with_reducible refine Within.alloc ?_ _ | with_reducible refine Within.drew ?_ | with_reducible refine Within.drewN ?_ _ | with_reducible refine Within.setCell ?_ (by first | (simp; done) | (simp; omega)) _ | with_reducible refine Within.trans ?_ (by assumption)))
        · intro wq hq
          have hcq := hq.cells
          clear hq
          go_simp
          rfl
        try simp only [Act.put, List.setIfInBounds_toArray, List.set_cons_zero, List.set_cons_succ]
      iterate 7
        refine sch_skip rfl (by first | rfl | decide | (simp [Region.wanted, yielded]; done)) (by repeat (first | with_reducible exact Within.refl _ | with_reducible assumption | with_reducible refine Within.alloc ?_ _ | with_reducible refine Within.drew ?_ | with_reducible refine Within.drewN ?_ _ | with_reducible refine Within.setCell ?_ (by first | (simp; done) | (simp; omega)) _ | with_reducible refine Within.trans ?_ (by assumption))) ?_
        try simp only [Act.put, List.setIfInBounds_toArray, List.set_cons_zero, List.set_cons_succ]
      refine sch_one_skip rfl (by first | rfl | decide | (simp [Region.wanted, yielded]; done)) (by repeat (first | with_reducible exact Within.refl _ | with_reducible assumption | with_reducible refine Within.alloc ?_ _ | with_reducible refine Within.drew ?_ | with_reducible refine Within.drewN ?_ _ | with_reducible refine Within.setCell ?_ (by first | (simp; done) | (simp; omega)) _ | with_reducible refine Within.trans ?_ (by assumption))) ?_
      try simp only [Act.put, List.setIfInBounds_toArray, List.set_cons_zero, List.set_cons_succ]
      iterate 2
        refine sch_skip rfl (by first | rfl | decide | (simp [Region.wanted, yielded]; done)) (by repeat (first | with_reducible exact Within.refl _ | with_reducible assumption | with_reducible refine Within.alloc ?_ _ | with_reducible refine Within.drew ?_ | with_reducible refine Within.drewN ?_ _ | with_reducible refine Within.setCell ?_ (by first | (simp; done) | (simp; omega)) _ | with_reducible refine Within.trans ?_ (by assumption))) ?_
        try simp only [Act.put, List.setIfInBounds_toArray, List.set_cons_zero, List.set_cons_succ]
      iterate 2
        apply sch_firm rfl rfl (by repeat (first | with_reducible exact Within.refl _ | with_reducible assumption | with_reducible refine Within.alloc ?_ _ | with_reducible refine Within.drew ?_ | with_reducible refine Within.drewN ?_ _ | with_reducible refine Within.setCell ?_ (by first | (simp; done) | (simp; omega)) _ | with_reducible refine Within.trans ?_ (by assumption)))
        · intro wq hq
          have hcq := hq.cells
          clear hq
          go_simp
          rfl
        try simp only [Act.put, List.setIfInBounds_toArray, List.set_cons_zero, List.set_cons_succ]
      iterate 2
        refine sch_skip rfl (by first | rfl | decide | (simp [Region.wanted, yielded]; done)) (by repeat (first | with_reducible exact Within.refl _ | with_reducible assumption | with_reducible refine Within.alloc ?_ _ | with_reducible refine Within.drew ?_ | with_reducible refine Within.drewN ?_ _ | with_reducible refine Within.setCell ?_ (by first | (simp; done) | (simp; omega)) _ | with_reducible refine Within.trans ?_ (by assumption))) ?_
        try simp only [Act.put, List.setIfInBounds_toArray, List.set_cons_zero, List.set_cons_succ]
      iterate 2
        apply sch_firm rfl rfl (by repeat (first | with_reducible exact Within.refl _ | with_reducible assumption | with_reducible refine Within.alloc ?_ _ | with_reducible refine Within.drew ?_ | with_reducible refine Within.drewN ?_ _ | with_reducible refine Within.setCell ?_ (by first | (simp; done) | (simp; omega)) _ | with_reducible refine Within.trans ?_ (by assumption)))
        · intro wq hq
          have hcq := hq.cells
          clear hq
          go_simp
          rfl
        try simp only [Act.put, List.setIfInBounds_toArray, List.set_cons_zero, List.set_cons_succ]
      iterate 6
        refine sch_skip rfl (by first | rfl | decide | (simp [Region.wanted, yielded]; done)) (by repeat (first | with_reducible exact Within.refl _ | with_reducible assumption | with_reducible refine Within.alloc ?_ _ | with_reducible refine Within.drew ?_ | with_reducible refine Within.drewN ?_ _ | with_reducible refine Within.setCell ?_ (by first | (simp; done) | (simp; omega)) _ | with_reducible refine Within.trans ?_ (by assumption))) ?_
        try simp only [Act.put, List.setIfInBounds_toArray, List.set_cons_zero, List.set_cons_succ]
      refine sch_one rfl rfl (fun K hK => ?_)
      go_simp
      refine hK _ _ (fun h => absurd h (by decide)) ?_
      clear hK K
      try simp only [Act.put, List.setIfInBounds_toArray, List.set_cons_zero, List.set_cons_succ]
      refine sch_nil ?_
      go_wp2
      go_ret2
      exact NextPost.why HNE.out HW.out (by decide) (by repeat (first | with_reducible exact Within.refl _ | with_reducible assumption | with_reducible refine Within.alloc ?_ _ | with_reducible refine Within.drew ?_ | with_reducible refine Within.drewN ?_ _ | with_reducible refine Within.setCell ?_ (by first | (simp; done) | (simp; omega)) _ | with_reducible refine Within.trans ?_ (by assumption)))
    · by_cases x2 : 3 < x
      · have u1 : decide ((x : Int) < 1) = false := decide_eq_false (by omega)
        have u2 : decide ((x : Int) > 3) = true := decide_eq_true (by omega)
        have HW := Lib.hid (why_form (b := left) (n := rs.length) (k := k) H13.out HSE.out (by rw [HX.out, HQ.out, HSZ.out, HN.out]; exact .inr (.inl x2)))
        go_wp2_with fail
        refine wp_region_schG (fun W => W.cell? ⟨rb, 0, none⟩ = some (.slice (some ad) (a + (m + 13)) (a + C)) ∧ W.cell? ⟨rb, 1, none⟩ = some (.int .i64 (a : Int)) ∧ W.cell? ⟨rb, 2, none⟩ = some (.int .u32 (k : Int)) ∧ W.cell? ⟨rb, 3, none⟩ = some (.slice Al n cl) ∧ rb < W.heap.size ∧ SlAt W (some la) (u8v left) ∧ Within w W) 29 (.firm 0 (.firm 1 (.firm 2 (.firm 3 (.firm 4 (.firm 5 (.firm 6 (.firm 7 (.firm 8 (.firm 11 (.firm 12 (.firm 13 (.firm 14 (.firm 15 (.one 9 (.firm 10 (.firm 16 (.firm 17 (.firm 18 (.firm 19 (.firm 20 (.firm 21 (.firm 22 (.firm 23 (.firm 24 (.firm 25 (.firm 26 (.firm 27 (.firm 28 (.one 29 .nil)))))))))))))))))))))))))))))) (by kernel_rfl) (by kernel_rfl) ⟨p0, p1, p2, p3, hrb, HLS.out.of HWN.out, HWN.out⟩ ?_
        rintro w0 ⟨p0, p1, p2, p3, hrb, hls, hwr⟩
        try simp only [Act.put, List.setIfInBounds_toArray, List.set_cons_zero, List.set_cons_succ]
        iterate 3
          apply sch_firm rfl rfl (by repeat (first | with_reducible exact Within.refl _ | with_reducible assumption | with_reducible refine Within.alloc ?_ _ | with_reducible refine Within.drew ?_ | with_reducible refine Within.drewN ?_ _ | with_reducible refine Within.setCell ?_ (by first | (simp; done) | (simp; omega)) _ | with_reducible refine Within.trans ?_ (by assumption)))
          · intro wq hq
            have hcq := hq.cells
            clear hq
            go_simp
            rfl
          try simp only [Act.put, List.setIfInBounds_toArray, List.set_cons_zero, List.set_cons_succ]
        iterate 2
          apply sch_want rfl (by first | rfl | decide | (simp [Region.wanted, yielded]; done)) (by repeat (first | with_reducible exact Within.refl _ | with_reducible assumption | with_reducible refine Within.alloc ?_ _ | with_reducible refine Within.drew ?_ | with_reducible refine Within.drewN ?_ _ | with_reducible refine Within.setCell ?_ (by first | (simp; done) | (simp; omega)) _ | with_reducible refine Within.trans ?_ (by assumption)))
          · intro wq hq
            have hcq := hq.cells
            clear hq
            go_simp
            rfl
          try simp only [Act.put, List.setIfInBounds_toArray, List.set_cons_zero, List.set_cons_succ]
        iterate 2
          apply sch_firm rfl rfl (by repeat (first | with_reducible exact Within.refl _ | with_reducible assumption | with_reducible refine Within.alloc ?_ _ | with_reducible refine Within.drew ?_ | with_reducible refine Within.drewN ?_ _ | with_reducible refine Within.setCell ?_ (by first | (simp; done) | (simp; omega)) _ | with_reducible refine Within.trans ?_ (by assumption)))
          · intro wq hq
            have hcq := hq.cells
            clear hq
            go_simp
            rfl
          try simp only [Act.put, List.setIfInBounds_toArray, List.set_cons_zero, List.set_cons_succ]
        iterate 7
          refine sch_skip rfl (by first | rfl | decide | (simp [Region.wanted, yielded]; done)) (by repeat (first | with_reducible exact Within.refl _ | with_reducible assumption | with_reducible refine Within.alloc ?_ _ | with_reducible refine Within.drew ?_ | with_reducible refine Within.drewN ?_ _ | with_reducible refine Within.setCell ?_ (by first | (simp; done) | (simp; omega)) _ | with_reducible refine Within.trans ?_ (by assumption))) ?_
          try simp only [Act.put, List.setIfInBounds_toArray, List.set_cons_zero, List.set_cons_succ]
        refine sch_one_skip rfl (by first | rfl | decide | (simp [Region.wanted, yielded]; done)) (by repeat (first | with_reducible exact Within.refl _ | with_reducible assumption | with_reducible refine Within.alloc ?_ _ | with_reducible refine Within.drew ?_ | with_reducible refine Within.drewN ?_ _ | with_reducible refine Within.setCell ?_ (by first | (simp; done) | (simp; omega)) _ | with_reducible refine Within.trans ?_ (by assumption))) ?_
        try simp only [Act.put, List.setIfInBounds_toArray, List.set_cons_zero, List.set_cons_succ]
        iterate 2
          refine sch_skip rfl (by first | rfl | decide | (simp [Region.wanted, yielded]; done)) (by repeat (first | with_reducible exact Within.refl _ | with_reducible assumption | with_reducible refine Within.alloc ?_ _ | with_reducible refine Within.drew ?_ | with_reducible refine Within.drewN ?_ _ | with_reducible refine Within.setCell ?_ (by first | (simp; done) | (simp; omega)) _ | with_reducible refine Within.trans ?_ (by assumption))) ?_
          try simp only [Act.put, List.setIfInBounds_toArray, List.set_cons_zero, List.set_cons_succ]
        iterate 2
          apply sch_firm rfl rfl (by repeat (first | with_reducible exact Within.refl _ | with_reducible assumption | with_reducible refine Within.alloc ?_ _ | with_reducible refine Within.drew ?_ | with_reducible refine Within.drewN ?_ _ | with_reducible refine Within.setCell ?_ (by first | (simp; done) | (simp; omega)) _ | with_reducible refine Within.trans ?_ (by assumption)))
          · intro wq hq
            have hcq := hq.cells
            clear hq
            go_simp
            rfl
          try simp only [Act.put, List.setIfInBounds_toArray, List.set_cons_zero, List.set_cons_succ]
        iterate 2
          refine sch_skip rfl (by first | rfl | decide | (simp [Region.wanted, yielded]; done)) (by repeat (first | with_reducible exact Within.refl _ | with_reducible assumption | with_reducible refine Within.alloc ?_ _ | with_reducible refine Within.drew ?_ | with_reducible refine Within.drewN ?_ _ | with_reducible refine Within.setCell ?_ (by first | (simp; done) | (simp; omega)) _ | with_reducible refine Within.trans ?_ (by assumption))) ?_
          try simp only [Act.put, List.setIfInBounds_toArray, List.set_cons_zero, List.set_cons_succ]
        iterate 2
          apply sch_firm rfl rfl (by repeat (first | with_reducible exact Within.refl _ | with_reducible assumption | with_reducible refine Within.alloc ?_ _ | with_reducible refine Within.drew ?_ | with_reducible refine Within.drewN ?_ _ | with_reducible refine Within.setCell ?_ (by first | (simp; done) | (simp; omega)) _ | with_reducible refine Within.trans ?_ (by assumption)))
          · intro wq hq
            have hcq := hq.cells
            clear hq
            go_simp
            rfl
          try simp only [Act.put, List.setIfInBounds_toArray, List.set_cons_zero, List.set_cons_succ]
        iterate 6
          refine sch_skip rfl (by first | rfl | decide | (simp [Region.wanted, yielded]; done)) (by repeat (first | with_reducible exact Within.refl _ | with_reducible assumption | with_reducible refine Within.alloc ?_ _ | with_reducible refine Within.drew ?_ | with_reducible refine Within.drewN ?_ _ | with_reducible refine Within.setCell ?_ (by first | (simp; done) | (simp; omega)) _ | with_reducible refine Within.trans ?_ (by assumption))) ?_
          try simp only [Act.put, List.setIfInBounds_toArray, List.set_cons_zero, List.set_cons_succ]
        refine sch_one rfl rfl (fun K hK => ?_)
        go_simp
        refine hK _ _ (fun h => absurd h (by decide)) ?_
        clear hK K
        try simp only [Act.put, List.setIfInBounds_toArray, List.set_cons_zero, List.set_cons_succ]
        refine sch_nil ?_
        go_wp2
        go_ret2
        exact NextPost.why HNE.out HW.out (by decide) (by repeat (first | with_reducible exact Within.refl _ | with_reducible assumption | with_reducible refine Within.alloc ?_ _ | with_reducible refine Within.drew ?_ | with_reducible refine Within.drewN ?_ _ | with_reducible refine Within.setCell ?_ (by first | (simp; done) | (simp; omega)) _ | with_reducible refine Within.trans ?_ (by assumption)))
      · by_cases x3 : q = n
        · by_cases x4 : 1048576 < sz
          · have u1 : decide ((x : Int) < 1) = false := decide_eq_false (by omega)
            have u2 : decide ((x : Int) > 3) = false := decide_eq_false (by omega)
            have u3 : ((q : Int) != (n : Int)) = false := by rw [bne_eq_false_iff_eq]; omega
            have u4 : decide ((sz : Int) > 1048576) = true := decide_eq_true (by omega)
            have HW := Lib.hid (why_form (b := left) (n := rs.length) (k := k) H13.out HSE.out (by rw [HX.out, HQ.out, HSZ.out, HN.out]; exact .inr (.inr (.inr (.inl x4)))))
            go_wp2_with fail
            refine wp_region_schG (fun W => W.cell? ⟨rb, 0, none⟩ = some (.slice (some ad) (a + (m + 13)) (a + C)) ∧ W.cell? ⟨rb, 1, none⟩ = some (.int .i64 (a : Int)) ∧ W.cell? ⟨rb, 2, none⟩ = some (.int .u32 (k : Int)) ∧ W.cell? ⟨rb, 3, none⟩ = some (.slice Al n cl) ∧ rb < W.heap.size ∧ SlAt W (some la) (u8v left) ∧ Within w W) 29 (.firm 0 (.firm 1 (.firm 2 (.firm 3 (.firm 4 (.firm 5 (.firm 6 (.firm 7 (.firm 8 (.firm 11 (.firm 12 (.firm 13 (.firm 14 (.firm 15 (.one 9 (.firm 10 (.firm 16 (.firm 17 (.firm 18 (.firm 19 (.firm 20 (.firm 21 (.firm 22 (.firm 23 (.firm 24 (.firm 25 (.firm 26 (.firm 27 (.firm 28 (.one 29 .nil)))))))))))))))))))))))))))))) (by kernel_rfl) (by kernel_rfl) ⟨p0, p1, p2, p3, hrb, HLS.out.of HWN.out, HWN.out⟩ ?_
            rintro w0 ⟨p0, p1, p2, p3, hrb, hls, hwr⟩
            try simp only [Act.put, List.setIfInBounds_toArray, List.set_cons_zero, List.set_cons_succ]
            iterate 3
              apply sch_firm rfl rfl (by repeat (first | with_reducible exact Within.refl _ | with_reducible assumption | with_reducible refine Within.alloc ?_ _ | with_reducible refine Within.drew ?_ | with_reducible refine Within.drewN ?_ _ | with_reducible refine Within.setCell ?_ (by first | (simp; done) | (simp; omega)) _ | with_reducible refine Within.trans ?_ (by assumption)))
              · intro wq hq
                have hcq := hq.cells
                clear hq
                go_simp
                rfl
              try simp only [Act.put, List.setIfInBounds_toArray, List.set_cons_zero, List.set_cons_succ]
            iterate 2
              apply sch_want rfl (by first | rfl | decide | (simp [Region.wanted, yielded]; done)) (by repeat (first | with_reducible exact Within.refl _ | with_reducible assumption | with_reducible refine Within.alloc ?_ _ | with_reducible refine Within.drew ?_ | with_reducible refine Within.drewN ?_ _ | with_reducible refine Within.setCell ?_ (by first | (simp; done) | (simp; omega)) _ | with_reducible refine Within.trans ?_ (by assumption)))
              · intro wq hq
                have hcq := hq.cells
                clear hq
                go_simp
                rfl
              try simp only [Act.put, List.setIfInBounds_toArray, List.set_cons_zero, List.set_cons_succ]
            iterate 2
              apply sch_firm rfl rfl (by repeat (first | with_reducible exact Within.refl _ | with_reducible assumption | with_reducible refine Within.alloc ?_ _ | with_reducible refine Within.drew ?_ | with_reducible refine Within.drewN ?_ _ | with_reducible refine Within.setCell ?_ (by first | (simp; done) | (simp; omega)) _ | with_reducible refine Within.trans ?_ (by assumption)))
              · intro wq hq
                have hcq := hq.cells
                clear hq
                go_simp
                rfl
              try simp only [Act.put, List.setIfInBounds_toArray, List.set_cons_zero, List.set_cons_succ]
            iterate 7
              apply sch_want rfl (by first | rfl | decide | (simp [Region.wanted, yielded]; done)) (by repeat (first | with_reducible exact Within.refl _ | with_reducible assumption | with_reducible refine Within.alloc ?_ _ | with_reducible refine Within.drew ?_ | with_reducible refine Within.drewN ?_ _ | with_reducible refine Within.setCell ?_ (by first | (simp; done) | (simp; omega)) _ | with_reducible refine Within.trans ?_ (by assumption)))
              · intro wq hq
                have hcq := hq.cells
                clear hq
                go_simp
                rfl
              try simp only [Act.put, List.setIfInBounds_toArray, List.set_cons_zero, List.set_cons_succ]
            refine sch_one_want rfl (by first | rfl | decide | (simp [Region.wanted, yielded]; done)) (fun K hK => ?_)
            go_simp
            refine (NB1.out _ (by exact hls.of (by repeat (first | with_reducible exact Within.refl _ | with_reducible assumption | with_reducible refine Within.alloc ?_ _ | with_reducible refine Within.drew ?_ | with_reducible refine Within.drewN ?_ _ | with_reducible refine Within.setCell ?_ (by first | (simp; done) | (simp; omega)) _ | with_reducible refine Within.trans ?_ (by assumption))))).mono ?_; rintro e4 w4 ⟨rfl, h4⟩
            refine hK _ _ (fun _ => (by repeat (first | with_reducible exact Within.refl _ | with_reducible assumption | with_reducible refine Within.alloc ?_ _ | with_reducible refine Within.drew ?_ | with_reducible refine Within.drewN ?_ _ | with_reducible refine Within.setCell ?_ (by first | (simp; done) | (simp; omega)) _ | with_reducible refine Within.trans ?_ (by assumption)))) ?_
            clear hK K
            try simp only [Act.put, List.setIfInBounds_toArray, List.set_cons_zero, List.set_cons_succ]
            iterate 2
              apply sch_want rfl (by first | rfl | decide | (simp [Region.wanted, yielded]; done)) (by repeat (first | with_reducible exact Within.refl _ | with_reducible assumption | with_reducible refine Within.alloc ?_ _ | with_reducible refine Within.drew ?_ | with_reducible refine Within.drewN ?_ _ | with_reducible refine Within.setCell ?_ (by first | (simp; done) | (simp; omega)) _ | with_reducible refine Within.trans ?_ (by assumption)))
              · intro wq hq
                have hcq := hq.cells
                clear hq
                go_simp
                rfl
              try simp only [Act.put, List.setIfInBounds_toArray, List.set_cons_zero, List.set_cons_succ]
            iterate 2
              apply sch_firm rfl rfl (by repeat (first | with_reducible exact Within.refl _ | with_reducible assumption | with_reducible refine Within.alloc ?_ _ | with_reducible refine Within.drew ?_ | with_reducible refine Within.drewN ?_ _ | with_reducible refine Within.setCell ?_ (by first | (simp; done) | (simp; omega)) _ | with_reducible refine Within.trans ?_ (by assumption)))
              · intro wq hq
                have hcq := hq.cells
                clear hq
                go_simp
                rfl
              try simp only [Act.put, List.setIfInBounds_toArray, List.set_cons_zero, List.set_cons_succ]
            iterate 2
              apply sch_want rfl (by first | rfl | decide | (simp [Region.wanted, yielded]; done)) (by repeat (first | with_reducible exact Within.refl _ | with_reducible assumption | with_reducible refine Within.alloc ?_ _ | with_reducible refine Within.drew ?_ | with_reducible refine Within.drewN ?_ _ | with_reducible refine Within.setCell ?_ (by first | (simp; done) | (simp; omega)) _ | with_reducible refine Within.trans ?_ (by assumption)))
              · intro wq hq
                have hcq := hq.cells
                clear hq
                go_simp
                rfl
              try simp only [Act.put, List.setIfInBounds_toArray, List.set_cons_zero, List.set_cons_succ]
            iterate 2
              apply sch_firm rfl rfl (by repeat (first | with_reducible exact Within.refl _ | with_reducible assumption | with_reducible refine Within.alloc ?_ _ | with_reducible refine Within.drew ?_ | with_reducible refine Within.drewN ?_ _ | with_reducible refine Within.setCell ?_ (by first | (simp; done) | (simp; omega)) _ | with_reducible refine Within.trans ?_ (by assumption)))
              · intro wq hq
                have hcq := hq.cells
                clear hq
                go_simp
                rfl
              try simp only [Act.put, List.setIfInBounds_toArray, List.set_cons_zero, List.set_cons_succ]
            iterate 6
              refine sch_skip rfl (by first | rfl | decide | (simp [Region.wanted, yielded]; done)) (by repeat (first | with_reducible exact Within.refl _ | with_reducible assumption | with_reducible refine Within.alloc ?_ _ | with_reducible refine Within.drew ?_ | with_reducible refine Within.drewN ?_ _ | with_reducible refine Within.setCell ?_ (by first | (simp; done) | (simp; omega)) _ | with_reducible refine Within.trans ?_ (by assumption))) ?_
              try simp only [Act.put, List.setIfInBounds_toArray, List.set_cons_zero, List.set_cons_succ]
            refine sch_one rfl rfl (fun K hK => ?_)
            go_simp
            refine hK _ _ (fun h => absurd h (by decide)) ?_
            clear hK K
            try simp only [Act.put, List.setIfInBounds_toArray, List.set_cons_zero, List.set_cons_succ]
            refine sch_nil ?_
            go_wp2
            go_ret2
            exact NextPost.why HNE.out HW.out (by decide) (by repeat (first | with_reducible exact Within.refl _ | with_reducible assumption | with_reducible refine Within.alloc ?_ _ | with_reducible refine Within.drew ?_ | with_reducible refine Within.drewN ?_ _ | with_reducible refine Within.setCell ?_ (by first | (simp; done) | (simp; omega)) _ | with_reducible refine Within.trans ?_ (by assumption)))
          · by_cases x5 : 1048576 ≤ n
            · have u1 : decide ((x : Int) < 1) = false := decide_eq_false (by omega)
              have u2 : decide ((x : Int) > 3) = false := decide_eq_false (by omega)
              have u3 : ((q : Int) != (n : Int)) = false := by rw [bne_eq_false_iff_eq]; omega
              have u4 : decide ((sz : Int) > 1048576) = false := decide_eq_false (by omega)
              have u5 : decide ((n : Int) ≥ 1048576) = true := decide_eq_true (by omega)
              have HW := Lib.hid (why_form (b := left) (n := rs.length) (k := k) H13.out HSE.out (by rw [HX.out, HQ.out, HSZ.out, HN.out]; exact .inr (.inr (.inr (.inr x5)))))
              go_wp2_with fail
              refine wp_region_schG (fun W => W.cell? ⟨rb, 0, none⟩ = some (.slice (some ad) (a + (m + 13)) (a + C)) ∧ W.cell? ⟨rb, 1, none⟩ = some (.int .i64 (a : Int)) ∧ W.cell? ⟨rb, 2, none⟩ = some (.int .u32 (k : Int)) ∧ W.cell? ⟨rb, 3, none⟩ = some (.slice Al n cl) ∧ rb < W.heap.size ∧ SlAt W (some la) (u8v left) ∧ Within w W) 29 (.firm 0 (.firm 1 (.firm 2 (.firm 3 (.firm 4 (.firm 5 (.firm 6 (.firm 7 (.firm 8 (.firm 11 (.firm 12 (.firm 13 (.firm 14 (.firm 15 (.one 9 (.firm 10 (.firm 16 (.firm 17 (.firm 18 (.firm 19 (.firm 20 (.firm 21 (.firm 22 (.firm 23 (.firm 24 (.firm 25 (.firm 26 (.firm 27 (.firm 28 (.one 29 .nil)))))))))))))))))))))))))))))) (by kernel_rfl) (by kernel_rfl) ⟨p0, p1, p2, p3, hrb, HLS.out.of HWN.out, HWN.out⟩ ?_
              rintro w0 ⟨p0, p1, p2, p3, hrb, hls, hwr⟩
              try simp only [Act.put, List.setIfInBounds_toArray, List.set_cons_zero, List.set_cons_succ]
              iterate 3
                apply sch_firm rfl rfl (by repeat (first | with_reducible exact Within.refl _ | with_reducible assumption | with_reducible refine Within.alloc ?_ _ | with_reducible refine Within.drew ?_ | with_reducible refine Within.drewN ?_ _ | with_reducible refine Within.setCell ?_ (by first | (simp; done) | (simp; omega)) _ | with_reducible refine Within.trans ?_ (by assumption)))
                · intro wq hq
                  have hcq := hq.cells
                  clear hq
                  go_simp
                  rfl
                try simp only [Act.put, List.setIfInBounds_toArray, List.set_cons_zero, List.set_cons_succ]
              iterate 2
                apply sch_want rfl (by first | rfl | decide | (simp [Region.wanted, yielded]; done)) (by repeat (first | with_reducible exact Within.refl _ | with_reducible assumption | with_reducible refine Within.alloc ?_ _ | with_reducible refine Within.drew ?_ | with_reducible refine Within.drewN ?_ _ | with_reducible refine Within.setCell ?_ (by first | (simp; done) | (simp; omega)) _ | with_reducible refine Within.trans ?_ (by assumption)))
                · intro wq hq
                  have hcq := hq.cells
                  clear hq
                  go_simp
                  rfl
                try simp only [Act.put, List.setIfInBounds_toArray, List.set_cons_zero, List.set_cons_succ]
              iterate 2
                apply sch_firm rfl rfl (by repeat (first | with_reducible exact Within.refl _ | with_reducible assumption | with_reducible refine Within.alloc ?_ _ | with_reducible refine Within.drew ?_ | with_reducible refine Within.drewN ?_ _ | with_reducible refine Within.setCell ?_ (by first | (simp; done) | (simp; omega)) _ | with_reducible refine Within.trans ?_ (by assumption)))
                · intro wq hq
                  have hcq := hq.cells
                  clear hq
                  go_simp
                  rfl
                try simp only [Act.put, List.setIfInBounds_toArray, List.set_cons_zero, List.set_cons_succ]
              iterate 7
                apply sch_want rfl (by first | rfl | decide | (simp [Region.wanted, yielded]; done)) (by repeat (first | with_reducible exact Within.refl _ | with_reducible assumption | with_reducible refine Within.alloc ?_ _ | with_reducible refine Within.drew ?_ | with_reducible refine Within.drewN ?_ _ | with_reducible refine Within.setCell ?_ (by first | (simp; done) | (simp; omega)) _ | with_reducible refine Within.trans ?_ (by assumption)))
                · intro wq hq
                  have hcq := hq.cells
                  clear hq
                  go_simp
                  rfl
                try simp only [Act.put, List.setIfInBounds_toArray, List.set_cons_zero, List.set_cons_succ]
              refine sch_one_want rfl (by first | rfl | decide | (simp [Region.wanted, yielded]; done)) (fun K hK => ?_)
              go_simp
              refine (NB1.out _ (by exact hls.of (by repeat (first | with_reducible exact Within.refl _ | with_reducible assumption | with_reducible refine Within.alloc ?_ _ | with_reducible refine Within.drew ?_ | with_reducible refine Within.drewN ?_ _ | with_reducible refine Within.setCell ?_ (by first | (simp; done) | (simp; omega)) _ | with_reducible refine Within.trans ?_ (by assumption))))).mono ?_; rintro e4 w4 ⟨rfl, h4⟩
              refine hK _ _ (fun _ => (by repeat (first | with_reducible exact Within.refl _ | with_reducible assumption | with_reducible refine Within.alloc ?_ _ | with_reducible refine Within.drew ?_ | with_reducible refine Within.drewN ?_ _ | with_reducible refine Within.setCell ?_ (by first | (simp; done) | (simp; omega)) _ | with_reducible refine Within.trans ?_ (by assumption)))) ?_
              clear hK K
              try simp only [Act.put, List.setIfInBounds_toArray, List.set_cons_zero, List.set_cons_succ]
              iterate 2
                apply sch_want rfl (by first | rfl | decide | (simp [Region.wanted, yielded]; done)) (by repeat (first | with_reducible exact Within.refl _ | with_reducible assumption | with_reducible refine Within.alloc ?_ _ | with_reducible refine Within.drew ?_ | with_reducible refine Within.drewN ?_ _ | with_reducible refine Within.setCell ?_ (by first | (simp; done) | (simp; omega)) _ | with_reducible refine Within.trans ?_ (by assumption)))
                · intro wq hq
                  have hcq := hq.cells
                  clear hq
                  go_simp
                  rfl
                try simp only [Act.put, List.setIfInBounds_toArray, List.set_cons_zero, List.set_cons_succ]
              iterate 2
                apply sch_firm rfl rfl (by repeat (first | with_reducible exact Within.refl _ | with_reducible assumption | with_reducible refine Within.alloc ?_ _ | with_reducible refine Within.drew ?_ | with_reducible refine Within.drewN ?_ _ | with_reducible refine Within.setCell ?_ (by first | (simp; done) | (simp; omega)) _ | with_reducible refine Within.trans ?_ (by assumption)))
                · intro wq hq
                  have hcq := hq.cells
                  clear hq
                  go_simp
                  rfl
                try simp only [Act.put, List.setIfInBounds_toArray, List.set_cons_zero, List.set_cons_succ]
              iterate 2
                apply sch_want rfl (by first | rfl | decide | (simp [Region.wanted, yielded]; done)) (by repeat (first | with_reducible exact Within.refl _ | with_reducible assumption | with_reducible refine Within.alloc ?_ _ | with_reducible refine Within.drew ?_ | with_reducible refine Within.drewN ?_ _ | with_reducible refine Within.setCell ?_ (by first | (simp; done) | (simp; omega)) _ | with_reducible refine Within.trans ?_ (by assumption)))
                · intro wq hq
                  have hcq := hq.cells
                  clear hq
                  go_simp
                  rfl
                try simp only [Act.put, List.setIfInBounds_toArray, List.set_cons_zero, List.set_cons_succ]
              iterate 2
                apply sch_firm rfl rfl (by repeat (first | with_reducible exact Within.refl _ | with_reducible assumption | with_reducible refine Within.alloc ?_ _ | with_reducible refine Within.drew ?_ | with_reducible refine Within.drewN ?_ _ | with_reducible refine Within.setCell ?_ (by first | (simp; done) | (simp; omega)) _ | with_reducible refine Within.trans ?_ (by assumption)))
                · intro wq hq
                  have hcq := hq.cells
                  clear hq
                  go_simp
                  rfl
                try simp only [Act.put, List.setIfInBounds_toArray, List.set_cons_zero, List.set_cons_succ]
              iterate 6
                apply sch_want rfl (by first | rfl | decide | (simp [Region.wanted, yielded]; done)) (by repeat (first | with_reducible exact Within.refl _ | with_reducible assumption | with_reducible refine Within.alloc ?_ _ | with_reducible refine Within.drew ?_ | with_reducible refine Within.drewN ?_ _ | with_reducible refine Within.setCell ?_ (by first | (simp; done) | (simp; omega)) _ | with_reducible refine Within.trans ?_ (by assumption)))
                · intro wq hq
                  have hcq := hq.cells
                  clear hq
                  go_simp
                  rfl
                try simp only [Act.put, List.setIfInBounds_toArray, List.set_cons_zero, List.set_cons_succ]
              refine sch_one rfl rfl (fun K hK => ?_)
              go_simp
              refine hK _ _ (fun h => absurd h (by decide)) ?_
              clear hK K
              try simp only [Act.put, List.setIfInBounds_toArray, List.set_cons_zero, List.set_cons_succ]
              refine sch_nil ?_
              go_wp2
              go_ret2
              exact NextPost.why HNE.out HW.out (by decide) (by repeat (first | with_reducible exact Within.refl _ | with_reducible assumption | with_reducible refine Within.alloc ?_ _ | with_reducible refine Within.drew ?_ | with_reducible refine Within.drewN ?_ _ | with_reducible refine Within.setCell ?_ (by first | (simp; done) | (simp; omega)) _ | with_reducible refine Within.trans ?_ (by assumption)))
            · have HF : Hid (¬ (left.getD 0 0 < 1 ∨ 3 < left.getD 0 0 ∨ at4 left 1 ≠ rs.length ∨ 1048576 < at4 left 5 ∨ 1048576 ≤ rs.length)) := Lib.hid (by rw [HX.out, HQ.out, HSZ.out, HN.out]; omega)
              have u1 : decide ((x : Int) < 1) = false := decide_eq_false (by omega)
              have u2 : decide ((x : Int) > 3) = false := decide_eq_false (by omega)
              have u3 : ((q : Int) != (n : Int)) = false := by rw [bne_eq_false_iff_eq]; omega
              have u4 : decide ((sz : Int) > 1048576) = false := decide_eq_false (by omega)
              have u5 : decide ((n : Int) ≥ 1048576) = false := decide_eq_false (by omega)
              go_wp2_with fail
              refine wp_region_schG (fun W => W.cell? ⟨rb, 0, none⟩ = some (.slice (some ad) (a + (m + 13)) (a + C)) ∧ W.cell? ⟨rb, 1, none⟩ = some (.int .i64 (a : Int)) ∧ W.cell? ⟨rb, 2, none⟩ = some (.int .u32 (k : Int)) ∧ W.cell? ⟨rb, 3, none⟩ = some (.slice Al n cl) ∧ rb < W.heap.size ∧ SlAt W (some la) (u8v left) ∧ Within w W) 29 (.firm 0 (.firm 1 (.firm 2 (.firm 3 (.firm 4 (.firm 5 (.firm 6 (.firm 7 (.firm 8 (.firm 11 (.firm 12 (.firm 13 (.firm 14 (.firm 15 (.one 9 (.firm 10 (.firm 16 (.firm 17 (.firm 18 (.firm 19 (.firm 20 (.firm 21 (.firm 22 (.firm 23 (.firm 24 (.firm 25 (.firm 26 (.firm 27 (.firm 28 (.one 29 .nil)))))))))))))))))))))))))))))) (by kernel_rfl) (by kernel_rfl) ⟨p0, p1, p2, p3, hrb, HLS.out.of HWN.out, HWN.out⟩ ?_
              rintro w0 ⟨p0, p1, p2, p3, hrb, hls, hwr⟩
              try simp only [Act.put, List.setIfInBounds_toArray, List.set_cons_zero, List.set_cons_succ]
              iterate 3
                apply sch_firm rfl rfl (by repeat (first | with_reducible exact Within.refl _ | with_reducible assumption | with_reducible refine Within.alloc ?_ _ | with_reducible refine Within.drew ?_ | with_reducible refine Within.drewN ?_ _ | with_reducible refine Within.setCell ?_ (by first | (simp; done) | (simp; omega)) _ | with_reducible refine Within.trans ?_ (by assumption)))
                · intro wq hq
                  have hcq := hq.cells
                  clear hq
                  go_simp
                  rfl
                try simp only [Act.put, List.setIfInBounds_toArray, List.set_cons_zero, List.set_cons_succ]
              iterate 2
                apply sch_want rfl (by first | rfl | decide | (simp [Region.wanted, yielded]; done)) (by repeat (first | with_reducible exact Within.refl _ | with_reducible assumption | with_reducible refine Within.alloc ?_ _ | with_reducible refine Within.drew ?_ | with_reducible refine Within.drewN ?_ _ | with_reducible refine Within.setCell ?_ (by first | (simp; done) | (simp; omega)) _ | with_reducible refine Within.trans ?_ (by assumption)))
                · intro wq hq
                  have hcq := hq.cells
                  clear hq
                  go_simp
                  rfl
                try simp only [Act.put, List.setIfInBounds_toArray, List.set_cons_zero, List.set_cons_succ]
              iterate 2
                apply sch_firm rfl rfl (by repeat (first | with_reducible exact Within.refl _ | with_reducible assumption | with_reducible refine Within.alloc ?_ _ | with_reducible refine Within.drew ?_ | with_reducible refine Within.drewN ?_ _ | with_reducible refine Within.setCell ?_ (by first | (simp; done) | (simp; omega)) _ | with_reducible refine Within.trans ?_ (by assumption)))
                · intro wq hq
                  have hcq := hq.cells
                  clear hq
                  go_simp
                  rfl
                try simp only [Act.put, List.setIfInBounds_toArray, List.set_cons_zero, List.set_cons_succ]
              iterate 7
                apply sch_want rfl (by first | rfl | decide | (simp [Region.wanted, yielded]; done)) (by repeat (first | with_reducible exact Within.refl _ | with_reducible assumption | with_reducible refine Within.alloc ?_ _ | with_reducible refine Within.drew ?_ | with_reducible refine Within.drewN ?_ _ | with_reducible refine Within.setCell ?_ (by first | (simp; done) | (simp; omega)) _ | with_reducible refine Within.trans ?_ (by assumption)))
                · intro wq hq
                  have hcq := hq.cells
                  clear hq
                  go_simp
                  rfl
                try simp only [Act.put, List.setIfInBounds_toArray, List.set_cons_zero, List.set_cons_succ]
              refine sch_one_want rfl (by first | rfl | decide | (simp [Region.wanted, yielded]; done)) (fun K hK => ?_)
              go_simp
              refine (NB1.out _ (by exact hls.of (by repeat (first | with_reducible exact Within.refl _ | with_reducible assumption | with_reducible refine Within.alloc ?_ _ | with_reducible refine Within.drew ?_ | with_reducible refine Within.drewN ?_ _ | with_reducible refine Within.setCell ?_ (by first | (simp; done) | (simp; omega)) _ | with_reducible refine Within.trans ?_ (by assumption))))).mono ?_; rintro e4 w4 ⟨rfl, h4⟩
              refine hK _ _ (fun _ => (by repeat (first | with_reducible exact Within.refl _ | with_reducible assumption | with_reducible refine Within.alloc ?_ _ | with_reducible refine Within.drew ?_ | with_reducible refine Within.drewN ?_ _ | with_reducible refine Within.setCell ?_ (by first | (simp; done) | (simp; omega)) _ | with_reducible refine Within.trans ?_ (by assumption)))) ?_
              clear hK K
              try simp only [Act.put, List.setIfInBounds_toArray, List.set_cons_zero, List.set_cons_succ]
              iterate 2
                apply sch_want rfl (by first | rfl | decide | (simp [Region.wanted, yielded]; done)) (by repeat (first | with_reducible exact Within.refl _ | with_reducible assumption | with_reducible refine Within.alloc ?_ _ | with_reducible refine Within.drew ?_ | with_reducible refine Within.drewN ?_ _ | with_reducible refine Within.setCell ?_ (by first | (simp; done) | (simp; omega)) _ | with_reducible refine Within.trans ?_ (by assumption)))
                · intro wq hq
                  have hcq := hq.cells
                  clear hq
                  go_simp
                  rfl
                try simp only [Act.put, List.setIfInBounds_toArray, List.set_cons_zero, List.set_cons_succ]
              iterate 2
                apply sch_firm rfl rfl (by repeat (first | with_reducible exact Within.refl _ | with_reducible assumption | with_reducible refine Within.alloc ?_ _ | with_reducible refine Within.drew ?_ | with_reducible refine Within.drewN ?_ _ | with_reducible refine Within.setCell ?_ (by first | (simp; done) | (simp; omega)) _ | with_reducible refine Within.trans ?_ (by assumption)))
                · intro wq hq
                  have hcq := hq.cells
                  clear hq
                  go_simp
                  rfl
                try simp only [Act.put, List.setIfInBounds_toArray, List.set_cons_zero, List.set_cons_succ]
              iterate 2
                apply sch_want rfl (by first | rfl | decide | (simp [Region.wanted, yielded]; done)) (by repeat (first | with_reducible exact Within.refl _ | with_reducible assumption | with_reducible refine Within.alloc ?_ _ | with_reducible refine Within.drew ?_ | with_reducible refine Within.drewN ?_ _ | with_reducible refine Within.setCell ?_ (by first | (simp; done) | (simp; omega)) _ | with_reducible refine Within.trans ?_ (by assumption)))
                · intro wq hq
                  have hcq := hq.cells
                  clear hq
                  go_simp
                  rfl
                try simp only [Act.put, List.setIfInBounds_toArray, List.set_cons_zero, List.set_cons_succ]
              iterate 2
                apply sch_firm rfl rfl (by repeat (first | with_reducible exact Within.refl _ | with_reducible assumption | with_reducible refine Within.alloc ?_ _ | with_reducible refine Within.drew ?_ | with_reducible refine Within.drewN ?_ _ | with_reducible refine Within.setCell ?_ (by first | (simp; done) | (simp; omega)) _ | with_reducible refine Within.trans ?_ (by assumption)))
                · intro wq hq
                  have hcq := hq.cells
                  clear hq
                  go_simp
                  rfl
                try simp only [Act.put, List.setIfInBounds_toArray, List.set_cons_zero, List.set_cons_succ]
              iterate 6
                apply sch_want rfl (by first | rfl | decide | (simp [Region.wanted, yielded]; done)) (by repeat (first | with_reducible exact Within.refl _ | with_reducible assumption | with_reducible refine Within.alloc ?_ _ | with_reducible refine Within.drew ?_ | with_reducible refine Within.drewN ?_ _ | with_reducible refine Within.setCell ?_ (by first | (simp; done) | (simp; omega)) _ | with_reducible refine Within.trans ?_ (by assumption)))
                · intro wq hq
                  have hcq := hq.cells
                  clear hq
                  go_simp
                  rfl
                try simp only [Act.put, List.setIfInBounds_toArray, List.set_cons_zero, List.set_cons_succ]
              refine sch_one rfl rfl (fun K hK => ?_)
              go_simp
              refine hK _ _ (fun h => absurd h (by decide)) ?_
              clear hK K
              try simp only [Act.put, List.setIfInBounds_toArray, List.set_cons_zero, List.set_cons_succ]
              refine sch_nil ?_
              have hxx : Within w0 w4 := (by repeat (first | with_reducible exact Within.refl _ | with_reducible assumption | with_reducible refine Within.alloc ?_ _ | with_reducible refine Within.drew ?_ | with_reducible refine Within.drewN ?_ _ | with_reducible refine Within.setCell ?_ (by first | (simp; done) | (simp; omega)) _ | with_reducible refine Within.trans ?_ (by assumption)))
              have p0 := (hxx.cells _ _ hrb).trans p0
              have p1 := (hxx.cells _ _ hrb).trans p1
              have p2 := (hxx.cells _ _ hrb).trans p2
              have p3 := (hxx.cells _ _ hrb).trans p3
              have hrb := Nat.lt_of_lt_of_le hrb hxx.size
              have HWN : Hid (Within w w4) := Lib.hid (hwr.trans hxx)
              clear hxx hwr
              clear h4 hls
              obtain ⟨E, hE⟩ : ∃ E, 13 + sz = E := ⟨_, rfl⟩
              have HEV : Hid (endV left = E) := Lib.hid (by unfold endV; rw [HSZ.out]; exact hE)
              have csz : IntKind.i64.wrap (sz : Int) = (sz : Int) := by rw [IntKind.wrap_i64]; omega
              have cE : (13 : Int) + (sz : Int) = (E : Int) := by omega
              have hEl : E ≤ 1048589 := by omega
              have hE13 : 13 ≤ E := by omega
              have HEE := Lib.hid hE; clear hE
              by_cases hsh : m + 13 < E + 4
              · have v0 : decide ((m : Int) + 13 < (E : Int) + 4) = true := decide_eq_true (by omega)
                have HW := Lib.hid (why_short (b := left) (n := rs.length) (k := k) H13.out HSE.out HF.out (by rw [HLR.out, HEV.out]; exact hsh))
                have hwr := HWN.out
                go_wp2
                go_ret2
                exact NextPost.why HNE.out HW.out (by decide) (by repeat (first | with_reducible exact Within.refl _ | with_reducible assumption | with_reducible refine Within.alloc ?_ _ | with_reducible refine Within.drew ?_ | with_reducible refine Within.drewN ?_ _ | with_reducible refine Within.setCell ?_ (by first | (simp; done) | (simp; omega)) _ | with_reducible refine Within.trans ?_ (by assumption)))
              · have v0 : decide ((m : Int) + 13 < (E : Int) + 4) = false := decide_eq_false (by omega)
                have HSH : Hid (¬ left.length < endV left + 4) := Lib.hid (by rw [HLR.out, HEV.out]; exact hsh)
                obtain ⟨nx, hnx⟩ : ∃ s, linkV k (left.take E) = s := ⟨_, rfl⟩
                have hnxl : nx < 4294967296 := by rw [← hnx]; exact linkV_lt (HLB.out.take E)
                have SBE := Lib.hid (fun W => SB.out W E (by omega) (by omega))
                rw [hnx] at SBE
                have HNX := Lib.hid hnx; clear hnx
                have t1 : (0 : Int) ≤ (E : Int) := by omega
                have t2 : (E : Int) ≤ (C : Int) := by omega
                have t3 : E ≤ C := by omega
                go_wp2_with fail
                refine wp_region_schG (fun W => W.cell? ⟨rb, 0, none⟩ = some (.slice (some ad) (a + (m + 13)) (a + C)) ∧ W.cell? ⟨rb, 1, none⟩ = some (.int .i64 (a : Int)) ∧ W.cell? ⟨rb, 2, none⟩ = some (.int .u32 (k : Int)) ∧ W.cell? ⟨rb, 3, none⟩ = some (.slice Al n cl) ∧ rb < W.heap.size ∧ SlAt W (some la) (u8v left) ∧ Within w W) 8 (.firm 0 (.firm 1 (.firm 2 (.firm 3 (.firm 4 (.firm 5 (.firm 6 (.one 7 (.one 8 .nil))))))))) (by kernel_rfl) (by kernel_rfl) ⟨p0, p1, p2, p3, hrb, HLS.out.of HWN.out, HWN.out⟩ ?_
                rintro w0 ⟨p0, p1, p2, p3, hrb, hls, hwr⟩
                try simp only [Act.put, List.setIfInBounds_toArray, List.set_cons_zero, List.set_cons_succ]
                iterate 7
                  apply sch_firm rfl rfl (by repeat (first | with_reducible exact Within.refl _ | with_reducible assumption | with_reducible refine Within.alloc ?_ _ | with_reducible refine Within.drew ?_ | with_reducible refine Within.drewN ?_ _ | with_reducible refine Within.setCell ?_ (by first | (simp; done) | (simp; omega)) _ | with_reducible refine Within.trans ?_ (by assumption)))
                  · intro wq hq
                    have hcq := hq.cells
                    clear hq
                    go_simp
                    rfl
                  try simp only [Act.put, List.setIfInBounds_toArray, List.set_cons_zero, List.set_cons_succ]
                refine sch_one rfl rfl (fun K hK => ?_)
                go_simp
                refine (SBE.out _ (by exact hls.of (by repeat (first | with_reducible exact Within.refl _ | with_reducible assumption | with_reducible refine Within.alloc ?_ _ | with_reducible refine Within.drew ?_ | with_reducible refine Within.drewN ?_ _ | with_reducible refine Within.setCell ?_ (by first | (simp; done) | (simp; omega)) _ | with_reducible refine Within.trans ?_ (by assumption))))).mono ?_; rintro e5 w5 ⟨rfl, h5⟩
                refine hK _ _ (fun _ => (by repeat (first | with_reducible exact Within.refl _ | with_reducible assumption | with_reducible refine Within.alloc ?_ _ | with_reducible refine Within.drew ?_ | with_reducible refine Within.drewN ?_ _ | with_reducible refine Within.setCell ?_ (by first | (simp; done) | (simp; omega)) _ | with_reducible refine Within.trans ?_ (by assumption)))) ?_
                clear hK K
                try simp only [Act.put, List.setIfInBounds_toArray, List.set_cons_zero, List.set_cons_succ]
                refine sch_one rfl rfl (fun K hK => ?_)
                go_simp
                refine hK _ _ (fun h => absurd h (by decide)) ?_
                clear hK K
                try simp only [Act.put, List.setIfInBounds_toArray, List.set_cons_zero, List.set_cons_succ]
                refine sch_nil ?_
                have hxx : Within w0 w5 := (by repeat (first | with_reducible exact Within.refl _ | with_reducible assumption | with_reducible refine Within.alloc ?_ _ | with_reducible refine Within.drew ?_ | with_reducible refine Within.drewN ?_ _ | with_reducible refine Within.setCell ?_ (by first | (simp; done) | (simp; omega)) _ | with_reducible refine Within.trans ?_ (by assumption)))
                have p0 := (hxx.cells _ _ hrb).trans p0
                have p1 := (hxx.cells _ _ hrb).trans p1
                have p2 := (hxx.cells _ _ hrb).trans p2
                have p3 := (hxx.cells _ _ hrb).trans p3
                have hrb := Nat.lt_of_lt_of_le hrb hxx.size
                have HWN : Hid (Within w w5) := Lib.hid (hwr.trans hxx)
                clear hxx hwr
                clear h5 hls
                obtain ⟨s2, hs2⟩ : ∃ s, at4 left E = s := ⟨_, rfl⟩
                have HS2 := Lib.hid hs2; clear hs2
                have y1 : ¬ C = E := by omega
                have y2 : (E : Int) ≤ (m : Int) + 13 := by omega
                have y3 : (m : Int) + 13 ≤ (C : Int) := by omega
                have y4 : E ≤ m + 13 := by omega
                by_cases hlk : s2 = nx
                · have v1 : ((s2 : Int) != (nx : Int)) = false := by rw [bne_eq_false_iff_eq]; omega
                  have HLE : Hid (¬ at4 left (endV left) ≠ linkV k (left.take (endV left))) := Lib.hid (by rw [HEV.out, HS2.out, HNX.out]; exact fun h => h hlk)
                  clear hlk
                  go_wp2_with fail
                  refine (NB.out _ E _ _ (by omega) (by omega) (by omega) (HLS.out.of HWN.out)).mono ?_; rintro e6 w6 ⟨hee, h6⟩
                  rw [HS2.out] at hee
                  subst hee
                  have hwr := HWN.out
                  have hxx : Within w5 w6 := (by repeat (first | with_reducible exact Within.refl _ | with_reducible assumption | with_reducible refine Within.alloc ?_ _ | with_reducible refine Within.drew ?_ | with_reducible refine Within.drewN ?_ _ | with_reducible refine Within.setCell ?_ (by first | (simp; done) | (simp; omega)) _ | with_reducible refine Within.trans ?_ (by assumption)))
                  have p0 := (hxx.cells _ _ hrb).trans p0
                  have p1 := (hxx.cells _ _ hrb).trans p1
                  have p2 := (hxx.cells _ _ hrb).trans p2
                  have p3 := (hxx.cells _ _ hrb).trans p3
                  have hrb := Nat.lt_of_lt_of_le hrb hxx.size
                  have HWN : Hid (Within w w6) := Lib.hid (hwr.trans hxx)
                  clear hxx hwr
                  clear h6
                  obtain ⟨dd, hdd⟩ : ∃ dd, (left.drop 13).take sz = dd := ⟨_, rfl⟩
                  have hdl : dd.length = sz := by rw [← hdd, List.length_take, List.length_drop, HLR.out]; omega
                  have hdb : Bytes dd := by rw [← hdd]; exact (HLB.out.drop 13).take sz
                  have hds : SlAt w6 (some (la.add 13)) (u8v dd) := by have := (left_at (HLS.out.of HWN.out) 13).take sz; rw [← hdd]; unfold u8v at this ⊢; rwa [← List.map_take] at this
                  rw [add_plain' la (by decide)] at hds
                  have CLN := clone_any (some ⟨la.block, la.off + 13, none⟩) (C - 13) dd (by omega) w6 hds
                  rw [hdl] at CLN
                  have HCLN := Lib.hid CLN; have HDB := Lib.hid hdb; have HDL := Lib.hid hdl; have HDD := Lib.hid hdd; clear CLN hdb hds hdl hdd
                  have y5 : (13 : Int) ≤ (E : Int) := by omega
                  have y6 : E - 13 = sz := by omega
                  have y7 : ¬ C = 13 := by omega
                  have y8 : (E : Int) ≤ (C : Int) := by omega
                  have y9 : 13 ≤ E := by omega
                  have y10 : E ≤ C := by omega
                  go_wp2_with fail
                  refine HCLN.out.mono ?_; rintro e7 w7 ⟨v7, rfl, hO7, h7⟩
                  obtain ⟨A7, c7, rfl, hc7, hs7, hD7⟩ := hO7.form
                  have JC := jcheck_any (x : Int) A7 c7 dd HDB.out hc7 (by rw [HDL.out]; omega) (w7.alloc (.cells #[.int .i64 (x : Int), .slice A7 dd.length c7] 30)) (HT.out.of ((HWN.out.trans h7).alloc _)) (hs7.of ((Within.refl w7).alloc _))
                  rw [HDL.out] at JC hO7 hc7 ⊢
                  obtain ⟨ck, hck⟩ : ∃ ck, checkR pf (x : Int) dd = ck := ⟨_, rfl⟩
                  rw [hck] at JC
                  have HJC := Lib.hid JC; have HO7 := Lib.hid hO7; have HCK := Lib.hid hck; have HD7 := Lib.hid hD7; clear JC hO7 hck hs7 hD7
                  go_wp2_with fail
                  refine HJC.out.mono ?_; rintro e8 w8 ⟨rfl, h8⟩
                  have hX78 : Within w7 w8 := Within.trans ((Within.refl w7).alloc _) h8
                  have z0 : w8.cell? ⟨w7.heap.size, 0, none⟩ = some (.int .i64 (x : Int)) := (h8.cells _ _ (by simp)).trans (by simp)
                  have z1 : w8.cell? ⟨w7.heap.size, 1, none⟩ = some (.slice A7 sz c7) := (h8.cells _ _ (by simp)).trans (by simp)
                  have hzb : w7.heap.size < w8.heap.size := World.block_lt_of_cell? _ _ z0
                  by_cases hc0 : ck = 0
                  · subst hc0
                    have HW0 : Hid (whyV pf left rs.length k = 0) := Lib.hid (by rw [why_rec H13.out HSE.out HF.out HSH.out HLE.out, HX.out, HSZ.out, HDD.out, HCK.out, if_neg (by decide)])
                    have HPF8 : Hid (∀ o, w8.frozen? ⟨rb, o, none⟩ = false) := Lib.hid (fun o => ((HWN.out.trans (h7.trans hX78)).frozens rb o HRB.out).trans (HPF.out o))
                    have hlt : ∀ j, (Value.slice Al n cl).ownBlock = some j → B ≤ j ∧ j < w.heap.size := HRL.out.own_lt
                    have hX8 := HWN.out.trans (h7.trans hX78)
                    have nT1 : ¬ ((Value.slice Al n cl).ownBlock = some rb) := fun h => by have := (hlt rb h).1; omega
                    have nT2 : ¬ ((Value.slice Al n cl).ownBlock = some w7.heap.size) := fun h => by have := (hlt _ h).2; have := HWN.out.size; have := h7.size; omega
                    have h6B : B ≤ w6.heap.size := Nat.le_trans hB HWN.out.size
                    have HLT := Lib.hid hlt
                    have HO8 := Lib.hid ((HO7.out.less h6B).of hX78)
                    have HRL8 := Lib.hid (HRL.out.of hX8)
                    have HX8 := Lib.hid hX8
                    have hne7 : (Value.slice A7 sz c7).ownBlock = none ∨ (Value.slice A7 sz c7).ownBlock ≠ (Value.slice Al n cl).ownBlock := by
                      cases ho : (Value.slice A7 sz c7).ownBlock with
                      | none => exact .inl rfl
                      | some j => exact .inr (fun e => by have h1 := (HO7.out.lt j ho).1; have h2 := (hlt j e.symm).2; have := HWN.out.size; omega)
                    have hwr := HWN.out
                    have HNE7 := Lib.hid hne7; clear hne7 hlt hX8
                    have hxx : Within w6 w8 := (by repeat (first | with_reducible exact Within.refl _ | with_reducible assumption | with_reducible refine Within.alloc ?_ _ | with_reducible refine Within.drew ?_ | with_reducible refine Within.drewN ?_ _ | with_reducible refine Within.setCell ?_ (by first | (simp; done) | (simp; omega)) _ | with_reducible refine Within.trans ?_ (by assumption)))
                    have p0 := (hxx.cells _ _ hrb).trans p0
                    have p1 := (hxx.cells _ _ hrb).trans p1
                    have p2 := (hxx.cells _ _ hrb).trans p2
                    have p3 := (hxx.cells _ _ hrb).trans p3
                    have hrb := Nat.lt_of_lt_of_le hrb hxx.size
                    have HWN : Hid (Within w w8) := Lib.hid (hwr.trans hxx)
                    clear hxx hwr
                    clear h8 h7 hX78
                    have nT1h := Lib.hid nT1; have nT2h := Lib.hid nT2; clear nT1 nT2
                    go_wp2_with fail
                    refine wp_region_schT (fun j => (Value.slice Al n cl).ownBlock = some j) (fun W => W.cell? ⟨rb, 0, none⟩ = some (.slice (some ad) (a + (m + 13)) (a + C)) ∧ W.cell? ⟨rb, 1, none⟩ = some (.int .i64 (a : Int)) ∧ W.cell? ⟨rb, 2, none⟩ = some (.int .u32 (k : Int)) ∧ W.cell? ⟨rb, 3, none⟩ = some (.slice Al n cl) ∧ rb < W.heap.size ∧ W.cell? ⟨w7.heap.size, 0, none⟩ = some (.int .i64 (x : Int)) ∧ W.cell? ⟨w7.heap.size, 1, none⟩ = some (.slice A7 sz c7) ∧ w7.heap.size < W.heap.size ∧ W = w8) 10 (.firm 0 (.firm 1 (.firm 2 (.firm 3 (.firm 4 (.firm 5 (.one 6 (.one 7 (.firm 8 (.firm 9 (.one 10 .nil))))))))))) (by kernel_rfl) (by kernel_rfl) ⟨p0, p1, p2, p3, hrb, z0, z1, hzb, rfl⟩ ?_
                    rintro w0 ⟨p0, p1, p2, p3, hrb, z0, z1, hzb, rfl⟩
                    try simp only [Act.put, List.setIfInBounds_toArray, List.set_cons_zero, List.set_cons_succ]
                    iterate 6
                      apply sch_firm rfl rfl (by repeat (first | with_reducible exact ButS.refl _ _ | with_reducible assumption | with_reducible refine ButS.drew ?_ | with_reducible refine ButS.alloc ?_ _ | with_reducible refine ButS.within ?_ (by assumption)))
                      · intro wq hq
                        have q0 := (hq.cells rb 0 hrb nT1h.out).trans p0
                        have q1 := (hq.cells rb 1 hrb nT1h.out).trans p1
                        have q2 := (hq.cells rb 2 hrb nT1h.out).trans p2
                        have q3 := (hq.cells rb 3 hrb nT1h.out).trans p3
                        have q4 := (hq.cells _ 0 hzb nT2h.out).trans z0
                        have q5 := (hq.cells _ 1 hzb nT2h.out).trans z1
                        have q6 := Nat.lt_of_lt_of_le hrb hq.size
                        have q7 := Nat.lt_of_lt_of_le hzb hq.size
                        clear hq
                        go_simp
                        rfl
                      try simp only [Act.put, List.setIfInBounds_toArray, List.set_cons_zero, List.set_cons_succ]
                    refine sch_one rfl rfl (fun K hK => ?_)
                    go_simp
                    refine hK _ _ (fun _ => (by repeat (first | with_reducible exact ButS.refl _ _ | with_reducible assumption | with_reducible refine ButS.drew ?_ | with_reducible refine ButS.alloc ?_ _ | with_reducible refine ButS.within ?_ (by assumption)))) ?_
                    clear hK K
                    try simp only [Act.put, List.setIfInBounds_toArray, List.set_cons_zero, List.set_cons_succ]
                    refine sch_one rfl rfl (fun K hK => ?_)
                    obtain ⟨v9, w9, hrun9, hR9, hg9, hb9, ho9⟩ := run_app_rec w0.drew B (.slice Al n cl) (rs.map Rec.i) ((x : Int), dd) (.slice A7 sz c7) (HRL8.out.of ((Within.refl w0).drew)) (HO8.out.of ((Within.refl w0).drew)) HDB.out HNE7.out (by rw [List.length_map, HN.out]; omega) (by exact Nat.le_trans hB HX8.out.size)
                    obtain ⟨A9, c9, rfl, hx9, hy9, hz9, hu9⟩ := hR9.at
                    clear hx9 hy9 hz9 hu9
                    obtain ⟨n9, hn9⟩ : ∃ n9, (rs.map Rec.i ++ [((x : Int), dd)]).length = n9 := ⟨_, rfl⟩
                    rw [hn9] at hrun9 hR9
                    clear hn9
                    have hS9 : ButS (fun j => (Value.slice Al n cl).ownBlock = some j) w0 w9 := ((ButS.refl _ w0).drew).grown hg9 (fun j hj => .inl hj)
                    have hC9 : NxC w9 rb (.slice (some ad) (a + (m + 13)) (a + C)) a k (.slice Al n cl) := NxC.grown (w := w0.drew) ⟨p0, p1, p2, p3, HPF8.out⟩ hg9 nT1h.out
                    have RUN9 := Lib.hid hrun9; have HR9 := Lib.hid hR9; have HC9 := Lib.hid hC9; clear hrun9 hR9 hg9 hb9 ho9 hC9
                    refine op_append_run (.tmp 108) (.tmp 110) 52 rfl _ _ rfl rfl RUN9.out ?_
                    refine hK _ _ (fun _ => (by repeat (first | with_reducible exact ButS.refl _ _ | with_reducible assumption | with_reducible refine ButS.drew ?_ | with_reducible refine ButS.alloc ?_ _ | with_reducible refine ButS.within ?_ (by assumption)))) ?_
                    clear hK K
                    try simp only [Act.put, List.setIfInBounds_toArray, List.set_cons_zero, List.set_cons_succ]
                    iterate 2
                      apply sch_firm rfl rfl (by repeat (first | with_reducible exact ButS.refl _ _ | with_reducible assumption | with_reducible refine ButS.drew ?_ | with_reducible refine ButS.alloc ?_ _ | with_reducible refine ButS.within ?_ (by assumption)))
                      · intro wq hq
                        have q0 := (hq.cells rb 0 hrb nT1h.out).trans p0
                        have q1 := (hq.cells rb 1 hrb nT1h.out).trans p1
                        have q2 := (hq.cells rb 2 hrb nT1h.out).trans p2
                        have q3 := (hq.cells rb 3 hrb nT1h.out).trans p3
                        have q4 := (hq.cells _ 0 hzb nT2h.out).trans z0
                        have q5 := (hq.cells _ 1 hzb nT2h.out).trans z1
                        have q6 := Nat.lt_of_lt_of_le hrb hq.size
                        have q7 := Nat.lt_of_lt_of_le hzb hq.size
                        clear hq
                        go_simp
                        rfl
                      try simp only [Act.put, List.setIfInBounds_toArray, List.set_cons_zero, List.set_cons_succ]
                    refine sch_one rfl rfl (fun K hK => ?_)
                    obtain ⟨r0, r1, r2, r3, rff⟩ := HC9.out
                    have hrb9 := HC9.out.lt
                    go_simp
                    refine hK _ _ (fun h => absurd h (by decide)) ?_
                    clear hK K
                    try simp only [Act.put, List.setIfInBounds_toArray, List.set_cons_zero, List.set_cons_succ]
                    refine sch_nil ?_
                    go_wp2
                    go_ret2
                    have hN := ((HC9.out.list (.slice A9 n9 c9)).place (a + (E + 4))).link nx
                    have hK : But rb w9 (((w9.setCell ⟨rb, 3, none⟩ (.slice A9 n9 c9)).setCell ⟨rb, 1, none⟩ (.int .i64 ((a + (E + 4) : Nat) : Int))).setCell ⟨rb, 2, none⟩ (.int .u32 (nx : Int))) := (((But.refl rb w9).set (.inl rfl) _).set (.inl rfl) _).set (.inl rfl) _
                    have hR := HR9.out.but hK hrB
                    have hS : ButS (fun j => j = rb ∨ B ≤ j) w (((w9.setCell ⟨rb, 3, none⟩ (.slice A9 n9 c9)).setCell ⟨rb, 1, none⟩ (.int .i64 ((a + (E + 4) : Nat) : Int))).setCell ⟨rb, 2, none⟩ (.int .u32 (nx : Int))) := (((((ButS.in_ HX8.out).trans hS9 (fun j _ hj => .inr (HLT.out j hj).1)).set (.inl (.inl rfl)) _).set (.inl (.inl rfl)) _).set (.inl (.inl rfl)) _)
                    rw [show ((a + (E + 4) : Nat) : Int) = (a : Int) + ((E : Int) + 4) by omega] at hN hR hS
                    have hI : (rs ++ [recV left]).map Rec.i = rs.map Rec.i ++ [((x : Int), dd)] := by
                      rw [List.map_append]; congr 1; show [(((left.getD 0 0 : Nat) : Int), (left.drop 13).take (at4 left 5))] = _; rw [HX.out, HSZ.out, HDD.out]
                    exact NextPost.rec_ HW0.out (by rw [HEV.out, HNX.out]; exact hN) (by rw [hI]; exact hR) hS
                  · have hne0 : (ck != 0) = true := bne_iff_ne.2 hc0
                    have HW := Lib.hid (show whyV pf left rs.length k = 3 by rw [why_rec H13.out HSE.out HF.out HSH.out HLE.out, HX.out, HSZ.out, HDD.out, HCK.out, if_pos hc0])
                    have hwr := HWN.out
                    go_wp2
                    go_ret2
                    exact NextPost.why HNE.out HW.out (by decide) (by repeat (first | with_reducible exact Within.refl _ | with_reducible assumption | with_reducible refine Within.alloc ?_ _ | with_reducible refine Within.drew ?_ | with_reducible refine Within.drewN ?_ _ | with_reducible refine Within.setCell ?_ (by first | (simp; done) | (simp; omega)) _ | with_reducible refine Within.trans ?_ (by assumption)))
                · have v1 : ((s2 : Int) != (nx : Int)) = true := bne_iff_ne.2 (by omega)
                  have HW := Lib.hid (why_link (b := left) (n := rs.length) (k := k) H13.out HSE.out HF.out HSH.out (by rw [HEV.out, HS2.out, HNX.out]; exact hlk))
                  clear hlk
                  go_wp2_with fail
                  refine (NB.out _ E _ _ (by omega) (by omega) (by omega) (HLS.out.of HWN.out)).mono ?_; rintro e6 w6 ⟨hee, h6⟩
                  rw [HS2.out] at hee
                  subst hee
                  have hwr := HWN.out
                  go_wp2
                  go_ret2
                  exact NextPost.why HNE.out HW.out (by decide) (by repeat (first | with_reducible exact Within.refl _ | with_reducible assumption | with_reducible refine Within.alloc ?_ _ | with_reducible refine Within.drew ?_ | with_reducible refine Within.drewN ?_ _ | with_reducible refine Within.setCell ?_ (by first | (simp; done) | (simp; omega)) _ | with_reducible refine Within.trans ?_ (by assumption)))
        · have u1 : decide ((x : Int) < 1) = false := decide_eq_false (by omega)
          have u2 : decide ((x : Int) > 3) = false := decide_eq_false (by omega)
          have u3 : ((q : Int) != (n : Int)) = true := bne_iff_ne.2 (by omega)
          have HW := Lib.hid (why_form (b := left) (n := rs.length) (k := k) H13.out HSE.out (by rw [HX.out, HQ.out, HSZ.out, HN.out]; exact .inr (.inr (.inl x3))))
          go_wp2_with fail
          refine wp_region_schG (fun W => W.cell? ⟨rb, 0, none⟩ = some (.slice (some ad) (a + (m + 13)) (a + C)) ∧ W.cell? ⟨rb, 1, none⟩ = some (.int .i64 (a : Int)) ∧ W.cell? ⟨rb, 2, none⟩ = some (.int .u32 (k : Int)) ∧ W.cell? ⟨rb, 3, none⟩ = some (.slice Al n cl) ∧ rb < W.heap.size ∧ SlAt W (some la) (u8v left) ∧ Within w W) 29 (.firm 0 (.firm 1 (.firm 2 (.firm 3 (.firm 4 (.firm 5 (.firm 6 (.firm 7 (.firm 8 (.firm 11 (.firm 12 (.firm 13 (.firm 14 (.firm 15 (.one 9 (.firm 10 (.firm 16 (.firm 17 (.firm 18 (.firm 19 (.firm 20 (.firm 21 (.firm 22 (.firm 23 (.firm 24 (.firm 25 (.firm 26 (.firm 27 (.firm 28 (.one 29 .nil)))))))))))))))))))))))))))))) (by kernel_rfl) (by kernel_rfl) ⟨p0, p1, p2, p3, hrb, HLS.out.of HWN.out, HWN.out⟩ ?_
          rintro w0 ⟨p0, p1, p2, p3, hrb, hls, hwr⟩
          try simp only [Act.put, List.setIfInBounds_toArray, List.set_cons_zero, List.set_cons_succ]
          iterate 3
            apply sch_firm rfl rfl (by repeat (first | with_reducible exact Within.refl _ | with_reducible assumption | with_reducible refine Within.alloc ?_ _ | with_reducible refine Within.drew ?_ | with_reducible refine Within.drewN ?_ _ | with_reducible refine Within.setCell ?_ (by first | (simp; done) | (simp; omega)) _ | with_reducible refine Within.trans ?_ (by assumption)))
            · intro wq hq
              have hcq := hq.cells
              clear hq
              go_simp
              rfl
            try simp only [Act.put, List.setIfInBounds_toArray, List.set_cons_zero, List.set_cons_succ]
          iterate 2
            apply sch_want rfl (by first | rfl | decide | (simp [Region.wanted, yielded]; done)) (by repeat (first | with_reducible exact Within.refl _ | with_reducible assumption | with_reducible refine Within.alloc ?_ _ | with_reducible refine Within.drew ?_ | with_reducible refine Within.drewN ?_ _ | with_reducible refine Within.setCell ?_ (by first | (simp; done) | (simp; omega)) _ | with_reducible refine Within.trans ?_ (by assumption)))
            · intro wq hq
              have hcq := hq.cells
              clear hq
              go_simp
              rfl
            try simp only [Act.put, List.setIfInBounds_toArray, List.set_cons_zero, List.set_cons_succ]
          iterate 2
            apply sch_firm rfl rfl (by repeat (first | with_reducible exact Within.refl _ | with_reducible assumption | with_reducible refine Within.alloc ?_ _ | with_reducible refine Within.drew ?_ | with_reducible refine Within.drewN ?_ _ | with_reducible refine Within.setCell ?_ (by first | (simp; done) | (simp; omega)) _ | with_reducible refine Within.trans ?_ (by assumption)))
            · intro wq hq
              have hcq := hq.cells
              clear hq
              go_simp
              rfl
            try simp only [Act.put, List.setIfInBounds_toArray, List.set_cons_zero, List.set_cons_succ]
          iterate 7
            apply sch_want rfl (by first | rfl | decide | (simp [Region.wanted, yielded]; done)) (by repeat (first | with_reducible exact Within.refl _ | with_reducible assumption | with_reducible refine Within.alloc ?_ _ | with_reducible refine Within.drew ?_ | with_reducible refine Within.drewN ?_ _ | with_reducible refine Within.setCell ?_ (by first | (simp; done) | (simp; omega)) _ | with_reducible refine Within.trans ?_ (by assumption)))
            · intro wq hq
              have hcq := hq.cells
              clear hq
              go_simp
              rfl
            try simp only [Act.put, List.setIfInBounds_toArray, List.set_cons_zero, List.set_cons_succ]
          refine sch_one_want rfl (by first | rfl | decide | (simp [Region.wanted, yielded]; done)) (fun K hK => ?_)
          go_simp
          refine (NB1.out _ (by exact hls.of (by repeat (first | with_reducible exact Within.refl _ | with_reducible assumption | with_reducible refine Within.alloc ?_ _ | with_reducible refine Within.drew ?_ | with_reducible refine Within.drewN ?_ _ | with_reducible refine Within.setCell ?_ (by first | (simp; done) | (simp; omega)) _ | with_reducible refine Within.trans ?_ (by assumption))))).mono ?_; rintro e4 w4 ⟨rfl, h4⟩
          refine hK _ _ (fun _ => (by repeat (first | with_reducible exact Within.refl _ | with_reducible assumption | with_reducible refine Within.alloc ?_ _ | with_reducible refine Within.drew ?_ | with_reducible refine Within.drewN ?_ _ | with_reducible refine Within.setCell ?_ (by first | (simp; done) | (simp; omega)) _ | with_reducible refine Within.trans ?_ (by assumption)))) ?_
          clear hK K
          try simp only [Act.put, List.setIfInBounds_toArray, List.set_cons_zero, List.set_cons_succ]
          iterate 2
            apply sch_want rfl (by first | rfl | decide | (simp [Region.wanted, yielded]; done)) (by repeat (first | with_reducible exact Within.refl _ | with_reducible assumption | with_reducible refine Within.alloc ?_ _ | with_reducible refine Within.drew ?_ | with_reducible refine Within.drewN ?_ _ | with_reducible refine Within.setCell ?_ (by first | (simp; done) | (simp; omega)) _ | with_reducible refine Within.trans ?_ (by assumption)))
            · intro wq hq
              have hcq := hq.cells
              clear hq
              go_simp
              rfl
            try simp only [Act.put, List.setIfInBounds_toArray, List.set_cons_zero, List.set_cons_succ]
          iterate 2
            apply sch_firm rfl rfl (by repeat (first | with_reducible exact Within.refl _ | with_reducible assumption | with_reducible refine Within.alloc ?_ _ | with_reducible refine Within.drew ?_ | with_reducible refine Within.drewN ?_ _ | with_reducible refine Within.setCell ?_ (by first | (simp; done) | (simp; omega)) _ | with_reducible refine Within.trans ?_ (by assumption)))
            · intro wq hq
              have hcq := hq.cells
              clear hq
              go_simp
              rfl
            try simp only [Act.put, List.setIfInBounds_toArray, List.set_cons_zero, List.set_cons_succ]
          iterate 2
            refine sch_skip rfl (by first | rfl | decide | (simp [Region.wanted, yielded]; done)) (by repeat (first | with_reducible exact Within.refl _ | with_reducible assumption | with_reducible refine Within.alloc ?_ _ | with_reducible refine Within.drew ?_ | with_reducible refine Within.drewN ?_ _ | with_reducible refine Within.setCell ?_ (by first | (simp; done) | (simp; omega)) _ | with_reducible refine Within.trans ?_ (by assumption))) ?_
            try simp only [Act.put, List.setIfInBounds_toArray, List.set_cons_zero, List.set_cons_succ]
          iterate 2
            apply sch_firm rfl rfl (by repeat (first | with_reducible exact Within.refl _ | with_reducible assumption | with_reducible refine Within.alloc ?_ _ | with_reducible refine Within.drew ?_ | with_reducible refine Within.drewN ?_ _ | with_reducible refine Within.setCell ?_ (by first | (simp; done) | (simp; omega)) _ | with_reducible refine Within.trans ?_ (by assumption)))
            · intro wq hq
              have hcq := hq.cells
              clear hq
              go_simp
              rfl
            try simp only [Act.put, List.setIfInBounds_toArray, List.set_cons_zero, List.set_cons_succ]
          iterate 6
            refine sch_skip rfl (by first | rfl | decide | (simp [Region.wanted, yielded]; done)) (by repeat (first | with_reducible exact Within.refl _ | with_reducible assumption | with_reducible refine Within.alloc ?_ _ | with_reducible refine Within.drew ?_ | with_reducible refine Within.drewN ?_ _ | with_reducible refine Within.setCell ?_ (by first | (simp; done) | (simp; omega)) _ | with_reducible refine Within.trans ?_ (by assumption))) ?_
            try simp only [Act.put, List.setIfInBounds_toArray, List.set_cons_zero, List.set_cons_succ]
          refine sch_one rfl rfl (fun K hK => ?_)
          go_simp
          refine hK _ _ (fun h => absurd h (by decide)) ?_
          clear hK K
          try simp only [Act.put, List.setIfInBounds_toArray, List.set_cons_zero, List.set_cons_succ]
          refine sch_nil ?_
          go_wp2
          go_ret2
          exact NextPost.why HNE.out HW.out (by decide) (by repeat (first | with_reducible exact Within.refl _ | with_reducible assumption | with_reducible refine Within.alloc ?_ _ | with_reducible refine Within.drew ?_ | with_reducible refine Within.drewN ?_ _ | with_reducible refine Within.setCell ?_ (by first | (simp; done) | (simp; omega)) _ | with_reducible refine Within.trans ?_ (by assumption)))
  · have n1 : ((s1 : Int) != (l1 : Int)) = true := bne_iff_ne.2 (by omega)
    have HW := Lib.hid (why_sum (b := left) (n := rs.length) (k := k) H13.out (by rw [HS1.out, HL1.out]; exact hsum))
    clear hsum
    go_enter Tryz.func60, Tryz.ntmps60
    go_wp2_with fail
    refine wp_region_schG (fun W => W.cell? ⟨rb, 0, none⟩ = some (.slice (some ad) (a + (m + 13)) (a + C)) ∧ W.cell? ⟨rb, 1, none⟩ = some (.int .i64 (a : Int)) ∧ W.cell? ⟨rb, 2, none⟩ = some (.int .u32 (k : Int)) ∧ W.cell? ⟨rb, 3, none⟩ = some (.slice Al n cl) ∧ rb < W.heap.size ∧ Within w W) 9 (.firm 0 (.firm 1 (.firm 2 (.firm 3 (.firm 4 (.firm 5 (.firm 6 (.firm 7 (.firm 8 (.one 9 .nil)))))))))) (by kernel_rfl) (by kernel_rfl) ⟨p0, p1, p2, p3, hrb, Within.refl _⟩ ?_
    rintro w0 ⟨p0, p1, p2, p3, hrb, hw0⟩
    try simp only [Act.put, List.setIfInBounds_toArray, List.set_cons_zero, List.set_cons_succ]
    iterate 9
      apply sch_firm rfl rfl (by repeat (first | with_reducible exact Within.refl _ | with_reducible assumption | with_reducible refine Within.alloc ?_ _ | with_reducible refine Within.drew ?_ | with_reducible refine Within.drewN ?_ _ | with_reducible refine Within.setCell ?_ (by first | (simp; done) | (simp; omega)) _ | with_reducible refine Within.trans ?_ (by assumption)))
      · intro wq hq
        have hcq := hq.cells
        clear hq
        go_simp
        rfl
      try simp only [Act.put, List.setIfInBounds_toArray, List.set_cons_zero, List.set_cons_succ]
    refine sch_one rfl rfl (fun K hK => ?_)
    go_simp
    refine hK _ _ (fun h => absurd h (by decide)) ?_
    clear hK K
    try simp only [Act.put, List.setIfInBounds_toArray, List.set_cons_zero, List.set_cons_succ]
    refine sch_nil ?_
    rw [← hla]
    clear hla
    have HW0 := Lib.hid hw0.drew
    go_wp2_with fail
    refine wp_region_schG (fun W => W.cell? ⟨rb, 0, none⟩ = some (.slice (some ad) (a + (m + 13)) (a + C)) ∧ W.cell? ⟨rb, 1, none⟩ = some (.int .i64 (a : Int)) ∧ W.cell? ⟨rb, 2, none⟩ = some (.int .u32 (k : Int)) ∧ W.cell? ⟨rb, 3, none⟩ = some (.slice Al n cl) ∧ rb < W.heap.size ∧ SlAt W (some la) (u8v left) ∧ Within w W) 10 (.firm 0 (.firm 1 (.firm 3 (.firm 4 (.firm 5 (.firm 6 (.firm 7 (.firm 8 (.one 2 (.one 9 (.one 10 .nil))))))))))) (by kernel_rfl) (by kernel_rfl) ⟨p0, p1, p2, p3, hrb, HLS.out.of HW0.out, HW0.out⟩ ?_
    rintro w0 ⟨p0, p1, p2, p3, hrb, hls, hwr⟩
    try simp only [Act.put, List.setIfInBounds_toArray, List.set_cons_zero, List.set_cons_succ]
    iterate 8
      apply sch_firm rfl rfl (by repeat (first | with_reducible exact Within.refl _ | with_reducible assumption | with_reducible refine Within.alloc ?_ _ | with_reducible refine Within.drew ?_ | with_reducible refine Within.drewN ?_ _ | with_reducible refine Within.setCell ?_ (by first | (simp; done) | (simp; omega)) _ | with_reducible refine Within.trans ?_ (by assumption)))
      · intro wq hq
        have hcq := hq.cells
        clear hq
        go_simp
        rfl
      try simp only [Act.put, List.setIfInBounds_toArray, List.set_cons_zero, List.set_cons_succ]
    refine sch_one rfl rfl (fun K hK => ?_)
    go_simp
    refine (NB9.out _ (by exact hls.of (by repeat (first | with_reducible exact Within.refl _ | with_reducible assumption | with_reducible refine Within.alloc ?_ _ | with_reducible refine Within.drew ?_ | with_reducible refine Within.drewN ?_ _ | with_reducible refine Within.setCell ?_ (by first | (simp; done) | (simp; omega)) _ | with_reducible refine Within.trans ?_ (by assumption))))).mono ?_; rintro e2 w2 ⟨rfl, h2⟩
    refine hK _ _ (fun _ => (by repeat (first | with_reducible exact Within.refl _ | with_reducible assumption | with_reducible refine Within.alloc ?_ _ | with_reducible refine Within.drew ?_ | with_reducible refine Within.drewN ?_ _ | with_reducible refine Within.setCell ?_ (by first | (simp; done) | (simp; omega)) _ | with_reducible refine Within.trans ?_ (by assumption)))) ?_
    clear hK K
    try simp only [Act.put, List.setIfInBounds_toArray, List.set_cons_zero, List.set_cons_succ]
    refine sch_one rfl rfl (fun K hK => ?_)
    go_simp
    refine (SB9.out _ (by exact hls.of (by repeat (first | with_reducible exact Within.refl _ | with_reducible assumption | with_reducible refine Within.alloc ?_ _ | with_reducible refine Within.drew ?_ | with_reducible refine Within.drewN ?_ _ | with_reducible refine Within.setCell ?_ (by first | (simp; done) | (simp; omega)) _ | with_reducible refine Within.trans ?_ (by assumption))))).mono ?_; rintro e3 w3 ⟨rfl, h3⟩
    refine hK _ _ (fun _ => (by repeat (first | with_reducible exact Within.refl _ | with_reducible assumption | with_reducible refine Within.alloc ?_ _ | with_reducible refine Within.drew ?_ | with_reducible refine Within.drewN ?_ _ | with_reducible refine Within.setCell ?_ (by first | (simp; done) | (simp; omega)) _ | with_reducible refine Within.trans ?_ (by assumption)))) ?_
    clear hK K
    try simp only [Act.put, List.setIfInBounds_toArray, List.set_cons_zero, List.set_cons_succ]
    refine sch_one rfl rfl (fun K hK => ?_)
    go_simp
    refine hK _ _ (fun h => absurd h (by decide)) ?_
    clear hK K
    try simp only [Act.put, List.setIfInBounds_toArray, List.set_cons_zero, List.set_cons_succ]
    refine sch_nil ?_
    go_wp2
    go_ret2
    exact NextPost.why HNE.out HW.out (by decide) (by repeat (first | with_reducible exact Within.refl _ | with_reducible assumption | with_reducible refine Within.alloc ?_ _ | with_reducible refine Within.drew ?_ | with_reducible refine Within.drewN ?_ _ | with_reducible refine Within.setCell ?_ (by first | (simp; done) | (simp; omega)) _ | with_reducible refine Within.trans ?_ (by assumption)))
end Go.Proofs.YtpmjlaiafgbjgaaGreatDoor
end

section
namespace Go.Proofs.YtpmjlaiafgbjgaaGreatDoor
open Go.RowKit
def TakePost (w : World) (b : List Nat) (n k : Nat) (e : Ending) (w' : World) : Prop :=
  (whyV pf b n k ≠ 0 ∧ e = .returned (.tuple #[.agg #[.int .i64 0, .slice none 0 0], .int .i64 0, .int .u32 0, .int .i64 (whyV pf b n k : Int)]) ∧ Within w w') ∨
  (whyV pf b n k = 0 ∧ ∃ v, e = .returned (.tuple #[.agg #[.int .i64 (b.getD 0 0 : Int), v], .int .i64 ((endV b + 4 : Nat) : Int), .int .u32 (linkV k (b.take (endV b)) : Int), .int .i64 0]) ∧ OwnB w' w.heap.size v ((b.drop 13).take (at4 b 5)) ∧ Within w w')
theorem TakePost.no {w w' : World} {b : List Nat} {n k y : Nat} (h : whyV pf b n k = y) (hy : y ≠ 0) (hw : Within w w') : TakePost w b n k (.returned (.tuple #[.agg #[.int .i64 0, .slice none 0 0], .int .i64 0, .int .u32 0, .int .i64 (y : Int)])) w' := .inl ⟨by rw [h]; exact hy, by rw [h], hw⟩
end Go.Proofs.YtpmjlaiafgbjgaaGreatDoor
end

section
namespace Go.Proofs.YtpmjlaiafgbjgaaGreatDoor
variable {F : Fl}
theorem readV_log {l : List Rec} (h : ∀ r ∈ l, r.Ok F) (hn : l.length ≤ 1048576) : readV F (laidV l 0 startV) 0 startV = (l, 0, (laidV l 0 startV).length, lastV l 0 startV) := by
  have := readV_laid l 0 startV [] h (by omega)
  rw [List.append_nil, readV_nil, List.append_nil] at this
  rw [this, Nat.zero_add]
theorem startV_lt : startV < 4294967296 := by decide +kernel
theorem laidV_bytes : ∀ {l : List Rec} (n last : Nat), (∀ r ∈ l, r.Ok F) → Bytes (laidV l n last)
  | [], _, _, _ => fun c hc => by cases hc
  | r :: l, n, last, h => (layV_bytes (h r (by simp)) n last).append (laidV_bytes _ _ fun r hr => h r (by simp [hr]))
/-! one byte turned -/
theorem whyV_sums {b : List Nat} {n last : Nat} (h : whyV F b n last = 0) : 13 ≤ b.length ∧ at4 b 9 = linkV last (b.take 9) ∧ endV b + 4 ≤ b.length ∧ at4 b (endV b) = linkV last (b.take (endV b)) ∧ at4 b 1 = n := by
  unfold whyV at h
  by_cases c1 : b.length < 13
  · rw [if_pos c1] at h; cases h
  rw [if_neg c1] at h
  by_cases c2 : at4 b 9 ≠ linkV last (b.take 9)
  · rw [if_pos c2] at h; cases h
  rw [if_neg c2] at h
  by_cases c3 : b.getD 0 0 < 1 ∨ 3 < b.getD 0 0 ∨ at4 b 1 ≠ n ∨ 1048576 < at4 b 5 ∨ 1048576 ≤ n
  · rw [if_pos c3] at h; cases h
  rw [if_neg c3] at h
  by_cases c4 : b.length < endV b + 4
  · rw [if_pos c4] at h; cases h
  rw [if_neg c4] at h
  by_cases c5 : at4 b (endV b) ≠ linkV last (b.take (endV b))
  · rw [if_pos c5] at h; cases h
  simp only [ne_eq, Decidable.not_not] at c2 c5
  exact ⟨by omega, c2, by omega, c5, by omega⟩
end Go.Proofs.YtpmjlaiafgbjgaaGreatDoor
end

section
namespace Go.Proofs.YtpmjlaiafgbjgaaGreatDoor
open Go.RowKit
theorem magic_str : strB magicV = ⟨#[66, 73, 78, 76, 79, 71, 49, 10]⟩ := by kernel_rfl
theorem magic_list : (strB magicV).toList = [66, 73, 78, 76, 79, 71, 49, 10] := by rw [magic_str]; simp
theorem magic_bytes : Bytes magicV := by intro x hx; revert x; decide
def ReadP (w : World) (bv : Value) (b : List Nat) (w' : World) (rb : Nat) : Prop := ∃ lv, w.heap.size ≤ rb ∧ NxC w' rb bv (8 + (readV pf (b.drop 8) 0 startV).2.2.1) (readV pf (b.drop 8) 0 startV).2.2.2 lv ∧ RecsO w' w.heap.size lv ((readV pf (b.drop 8) 0 startV).1.map Rec.i) ∧ Within w w'
def ReadRel (w : World) (B rb : Nat) (bv : Value) (b : List Nat) (wr : World) : Prop := ∃ (a k : Nat) (rs : List Rec) (lv : Value), NxC wr rb bv a k lv ∧ RecsO wr B lv (rs.map Rec.i) ∧ Within w wr ∧ B ≤ wr.heap.size ∧ a ≤ b.length ∧ 8 ≤ a ∧ k < 4294967296 ∧ rs.length ≤ 1048576 ∧
  readV pf (b.drop 8) 0 startV = (rs ++ (readV pf (b.drop a) rs.length k).1, (readV pf (b.drop a) rs.length k).2.1, (a - 8) + (readV pf (b.drop a) rs.length k).2.2.1, (readV pf (b.drop a) rs.length k).2.2.2)
theorem ReadRel.start {w W : World} {B rb : Nat} {bv : Value} {b : List Nat} (h8 : 8 ≤ b.length) (h : NxC W rb bv 8 startV (.slice none 0 0)) (hW : Within w W) (hB : B ≤ W.heap.size) : ReadRel w B rb bv b W :=
  ⟨8, startV, [], _, h, RecsO.nil_ _ _, hW, hB, h8, Nat.le_refl _, startV_lt, by simp, by simp⟩
theorem ReadRel.more {w wr w' : World} {B rb a k : Nat} {rs : List Rec} {bv lv : Value} {b : List Nat} (hb : Bytes b) (hwr : Within w wr) (hw : w.heap.size ≤ rb) (hrB : rb < B) (ha : a ≤ b.length) (h8 : 8 ≤ a)
    (hv : readV pf (b.drop 8) 0 startV = (rs ++ (readV pf (b.drop a) rs.length k).1, (readV pf (b.drop a) rs.length k).2.1, (a - 8) + (readV pf (b.drop a) rs.length k).2.2.1, (readV pf (b.drop a) rs.length k).2.2.2))
    (hB : B ≤ wr.heap.size) (hy : whyV pf (b.drop a) rs.length k = 0) (h1 : NxC w' rb bv (a + (endV (b.drop a) + 4)) (linkV k ((b.drop a).take (endV (b.drop a)))) lv) (h2 : RecsO w' B lv ((rs ++ [recV (b.drop a)]).map Rec.i)) (h3 : ButS (fun j => j = rb ∨ B ≤ j) wr w') :
    ReadRel w B rb bv b w' ∧ a + (endV (b.drop a) + 4) ≤ b.length := by
  obtain ⟨s1, s2, s3, s4⟩ := whyV_sums hy
  have hn : rs.length < 1048576 := by
    by_cases h : 1048576 ≤ rs.length
    · have := why_form (b := b.drop a) (n := rs.length) (k := k) (by omega) (fun e => e s2) (.inr (.inr (.inr (.inr h))))
      rw [this] at hy; cases hy
    · omega
  have hl : (b.drop a).length = b.length - a := List.length_drop
  refine ⟨⟨a + (endV (b.drop a) + 4), _, rs ++ [recV (b.drop a)], lv, h1, h2, hwr.asides h3 (fun j hj => by rcases hj with rfl | hj; exact hw; omega), Nat.le_trans hB h3.size, by omega, by omega, linkV_lt ((hb.drop a).take _), by simp; omega, ?_⟩, by omega⟩
  rw [hv, readV_rec hy, List.drop_drop, List.length_append]
  simp only [List.append_assoc, List.singleton_append, List.length_cons, List.length_nil, Prod.mk.injEq, true_and]
  have e : a + (endV (b.drop a) + 4) - 8 = a - 8 + (endV (b.drop a) + 4) := by omega
  rw [e]
  refine ⟨?_, trivial⟩
  rw [Nat.zero_add]
  omega
theorem NextPost.split {w w' : World} {rb B : Nat} {bv : Value} {left : List Nat} {a k : Nat} {rs : List Rec} {e : Ending} (h : NextPost w rb B bv left a k rs e w') :
    (∃ y : Nat, readV pf left rs.length k = ([], y, 0, k) ∧ e = .returned (.tuple #[.int .i64 (y : Int), .bool false]) ∧ Within w w') ∨
    (whyV pf left rs.length k = 0 ∧ e = .returned (.tuple #[.int .i64 0, .bool true]) ∧ ∃ lv, NxC w' rb bv (a + (endV left + 4)) (linkV k (left.take (endV left))) lv ∧ RecsO w' B lv ((rs ++ [recV left]).map Rec.i) ∧ ButS (fun j => j = rb ∨ B ≤ j) w w') := by
  rcases h with ⟨rfl, h1, h2⟩ | ⟨h0, h1, h2, h3⟩ | h
  · exact .inl ⟨0, readV_nil _ _, h1, h2⟩
  · exact .inl ⟨_, readV_why h0 h1, h2, h3⟩
  · exact .inr h
theorem NxC.aside {w : World} {rb : Nat} {bv : Value} {a k : Nat} {lv : Value} (h : NxC w rb bv a k lv) {p : Addr} (hp : rb ≠ p.block) (u : Value) : NxC (w.setCell p u) rb bv a k lv := by
  obtain ⟨h0, h1, h2, h3, h4⟩ := h
  have e : (w.setCell p u).heap[rb]? = w.heap[rb]? := Below.heap_setCell _ _ _ _ hp
  exact ⟨(World.cell?_of_block e).trans h0, (World.cell?_of_block e).trans h1, (World.cell?_of_block e).trans h2, (World.cell?_of_block e).trans h3, fun o => (World.frozen?_of_block e).trans (h4 o)⟩
theorem ReadP.done {w w' : World} {B rb a k y : Nat} {rs : List Rec} {bv lv : Value} {b : List Nat}
    (hv : readV pf (b.drop 8) 0 startV = (rs ++ (readV pf (b.drop a) rs.length k).1, (readV pf (b.drop a) rs.length k).2.1, (a - 8) + (readV pf (b.drop a) rs.length k).2.2.1, (readV pf (b.drop a) rs.length k).2.2.2))
    (hy : readV pf (b.drop a) rs.length k = ([], y, 0, k)) (h8 : 8 ≤ a) (hC : NxC w' rb bv a k lv) (hL : RecsO w' B lv (rs.map Rec.i)) (hw : w.heap.size ≤ rb) (hB : w.heap.size ≤ B) (hin : Within w w') :
    (readV pf (b.drop 8) 0 startV).2.1 = y ∧ 8 + (readV pf (b.drop 8) 0 startV).2.2.1 = a ∧ ReadP w bv b w' rb := by
  rw [hy] at hv
  have e : 8 + (a - 8 + 0) = a := by omega
  unfold ReadP
  rw [hv]
  simp only [e, List.append_nil]
  exact ⟨trivial, trivial, lv, hw, hC, hL.less hB, hin⟩
set_option maxRecDepth 100000 in
set_option maxHeartbeats 1000000 in
theorem read_any (A : Option Addr) (c : Nat) (b : List Nat) (hb : Bytes b) (hlen : b.length ≤ 140737488355328) (hc : b.length ≤ c) (w : World) (hT : FmS w) (hr : SlAt w A (u8v b)) : Calls Tryz.prog 35 #[.slice A b.length c] w fun e w' => (b.take 8 ≠ magicV ∧ e = .returned (.tuple #[.pointer none, .agg #[.int .i64 1, .int .i64 0]]) ∧ Within w w') ∨ (b.take 8 = magicV ∧ ∃ rb, e = .returned (.tuple #[.pointer (some ⟨rb, 0, none⟩), .agg #[.int .i64 ((readV pf (b.drop 8) 0 startV).2.1 : Int), .int .i64 ((8 + (readV pf (b.drop 8) 0 startV).2.2.1 : Nat) : Int)]]) ∧ ReadP w (.slice A b.length c) b w' rb) := by
  have hr8 := hr.take 8
  have HB := Lib.hid hb; have HT := Lib.hid hT; have HR := Lib.hid hr; clear hb hT hr
  by_cases h8 : b.length < 8
  · have HN : Hid (b.take 8 ≠ magicV) := Lib.hid (fun h => by have := congrArg List.length h; rw [List.length_take] at this; have e : magicV.length = 8 := rfl; omega)
    have v0 : decide ((b.length : Int) < 8) = true := decide_eq_true (by omega)
    clear h8 hr8
    go_enter Tryz.func35, Tryz.ntmps35
    go_wp2
    refine wp_scope_straight ?_
    go_wp2
    rw [Exit.noGoto_ret]
    refine bodyPost_ret (v := .tuple #[.pointer none, .agg #[.int .i64 1, .int .i64 0]]) (by simp [results, Tryz.results35, go_sem]) rfl (.inl ⟨HN.out, rfl, ?_⟩)
    exact (by repeat (first | with_reducible exact Within.refl _ | with_reducible assumption | with_reducible refine Within.alloc ?_ _ | with_reducible refine Within.drew ?_ | with_reducible refine Within.drewN ?_ _ | with_reducible refine Within.setCell ?_ (by first | (simp; done) | (simp; omega)) _ | with_reducible refine Within.trans ?_ (by assumption)))
  have l8 : (b.take 8).length = 8 := by rw [List.length_take]; omega
  obtain ⟨s, hs⟩ : ∃ s, s = strB (b.take 8) := ⟨_, rfl⟩
  have ST : Hid (∀ W, SlAt W A (u8v (b.take 8)) → (convert 28 9 (.slice A 8 c)).run Tryz.prog W = .ok (.string s) W) := Lib.hid (fun W h => by rw [hs]; have := run_str A c (b.take 8) W h; rwa [l8] at this)
  have HR8 : Hid (SlAt w A (u8v (b.take 8))) := Lib.hid (by unfold u8v at hr8 ⊢; rwa [← List.map_take] at hr8)
  clear hr8
  have v0 : decide ((b.length : Int) < 8) = false := decide_eq_false (by omega)
  have b8 : (8 : Int) ≤ (b.length : Int) := by omega
  have c8 : (8 : Int) ≤ (c : Int) := by omega
  have n8 : 8 ≤ b.length := by omega
  have m8 : 8 ≤ c := by omega
  have bc : (b.length : Int) ≤ (c : Int) := by omega
  have st0 := ST.out _ (HR8.out.of ((Within.refl w).alloc (.cells #[.int .i64 0, .int .i64 0] 42)))
  clear h8
  by_cases hm : b.take 8 = magicV
  · have hne : (s.toList == [66, 73, 78, 76, 79, 71, 49, 10]) = true := by rw [← magic_list, hs, hm]; simp
    have HM := Lib.hid hm; clear hm hs
    go_enter Tryz.func35, Tryz.ntmps35
    go_wp2
    refine wp_scope_straight ?_
    go_wp2_with fail
    refine (begin_any _).mono ?_; rintro e1 w1 ⟨rfl, h1⟩
    go_wp2_with fail
    go_step3
    go_wp2_with fail
    obtain ⟨ad, rfl, _, _⟩ := SlAt.at (l := b) (k := 0) (by exact HR.out) (by omega)
    obtain ⟨WT, hWT⟩ : ∃ WT, WT = w.alloc (.cells #[.int .i64 0, .int .i64 0] 42) := ⟨_, rfl⟩
    have q0 : WT.cell? ⟨w.heap.size, 0, none⟩ = some (.int .i64 0) := by rw [hWT]; simp
    have q1 : WT.cell? ⟨w.heap.size, 1, none⟩ = some (.int .i64 0) := by rw [hWT]; simp
    have qf : ∀ o, WT.frozen? ⟨w.heap.size, o, none⟩ = false := fun o => by rw [hWT]; simp
    have hWW0 : Within w WT := by rw [hWT]; exact (Within.refl w).alloc _
    have qs : w.heap.size < WT.heap.size := by rw [hWT]; simp
    rw [← hWT] at h1
    clear hWT
    obtain ⟨W1, hWW⟩ : ∃ W1, W1 = w1.alloc (.cells #[.slice (some ad) b.length c, .int .i64 8, .int .u32 (startV : Int), .slice none 0 0] 86) := ⟨_, rfl⟩
    have HNX : NxC W1 w1.heap.size (.slice (some ad) b.length c) 8 startV (.slice none 0 0) := by rw [hWW]; exact ⟨by simp, by simp, by simp, by simp, fun o => by simp⟩
    have HW1 : Within WT W1 := by rw [hWW]; exact h1.alloc _
    have hS1 : W1.heap.size = w1.heap.size + 1 := by rw [hWW]; simp
    rw [← hWW]
    clear hWW
    obtain ⟨rb, hrb⟩ : ∃ rb, rb = w1.heap.size := ⟨_, rfl⟩
    rw [← hrb] at HNX hS1 ⊢
    have hwrb : WT.heap.size ≤ rb := by rw [hrb]; exact h1.size
    have HREL := Lib.hid (ReadRel.start (w := WT) (B := rb + 1) n8 HNX HW1 (by omega))
    have HWW0 := Lib.hid hWW0; have QF := Lib.hid qf
    clear h1 HW1 hrb HNX hWW0 qf st0
    go_loopw [5] (fun _ wr => ReadRel WT (rb + 1) rb (.slice (some ad) b.length c) b wr) (fun _ wr => b.length - (intOf ((wr.cell? ⟨rb, 1, none⟩).getD undef)).toNat)
    case atStart => exact HREL.out
    case round =>
      obtain ⟨a, k, rs, lv, hC, hL, hin, hB, ha, ha8, hk, hrs, hv⟩ := hrel
      have p1 := hC.2.1
      have NXT := Lib.hid (next_any rb (rb + 1) ad c b HB.out a k rs hlen hc ha hk hrs (by omega) lv _ hB (HT.out.of (HWW0.out.trans hin)) hC hL (HR.out.of (HWW0.out.trans hin)))
      have HC := Lib.hid hC; have HL := Lib.hid hL; have HIN := Lib.hid hin; have HV := Lib.hid hv; clear hC hL hin hv
      go_wp2_with fail
      refine NXT.out.mono ?_; rintro e4 w4 hP
      clear NXT
      rcases hP.split with ⟨y, hy, rfl, h4⟩ | ⟨hy, rfl, lv', hC', hL', hS'⟩
      · clear hP
        have p1 := (h4.cells rb 1 (HC.out.lt)).trans p1
        have hrb4 := Nat.lt_of_lt_of_le HC.out.lt h4.size
        have q0 := ((HIN.out.trans h4).cells _ 0 qs).trans q0
        have q1 := ((HIN.out.trans h4).cells _ 1 qs).trans q1
        have qs4 := Nat.lt_of_lt_of_le qs (HIN.out.trans h4).size
        have q2 := ((HIN.out.trans h4).frozens _ 0 qs).trans (QF.out 0)
        have q3 := ((HIN.out.trans h4).frozens _ 1 qs).trans (QF.out 1)
        have HY := Lib.hid hy; have H4 := Lib.hid h4; clear hy h4
        go_wp2_with fail
        refine wp_region_schG (fun W => W.cell? ⟨rb, 1, none⟩ = some (.int .i64 (a : Int)) ∧ rb < W.heap.size ∧ W.cell? ⟨w.heap.size, 0, none⟩ = some (.int .i64 0) ∧ W.cell? ⟨w.heap.size, 1, none⟩ = some (.int .i64 0) ∧ w.heap.size < W.heap.size ∧ W.frozen? ⟨w.heap.size, 0, none⟩ = false ∧ W.frozen? ⟨w.heap.size, 1, none⟩ = false ∧ Within w4 W) 8 (.firm 0 (.firm 1 (.firm 2 (.firm 3 (.firm 4 (.firm 5 (.firm 6 (.firm 7 (.one 8 .nil))))))))) (by kernel_rfl) (by kernel_rfl) ⟨p1, hrb4, q0, q1, qs4, q2, q3, Within.refl _⟩ ?_
        rintro w0 ⟨p1, hrb4, q0, q1, qs4, q2, q3, hw0⟩
        try simp only [Act.put, List.setIfInBounds_toArray, List.set_cons_zero, List.set_cons_succ]
        iterate 8
          apply sch_firm rfl rfl (by repeat (first | with_reducible exact Within.refl _ | with_reducible assumption | with_reducible refine Within.alloc ?_ _ | with_reducible refine Within.drew ?_ | with_reducible refine Within.drewN ?_ _ | with_reducible refine Within.setCell ?_ (by first | (simp; done) | (simp; omega)) _ | with_reducible refine Within.trans ?_ (by assumption)))
          · intro wq hq
            have hcq := hq.cells
            clear hq
            go_simp
            rfl
          try simp only [Act.put, List.setIfInBounds_toArray, List.set_cons_zero, List.set_cons_succ]
        refine sch_one rfl rfl (fun K hK => ?_)
        go_simp
        refine hK _ _ (fun h => absurd h (by decide)) ?_
        clear hK K
        try simp only [Act.put, List.setIfInBounds_toArray, List.set_cons_zero, List.set_cons_succ]
        refine sch_nil ?_
        go_wp2
        have hX := H4.out.trans hw0
        have hXT := HIN.out.trans hX
        have hd : ∀ (V : World), Within V V.drew := fun V => (Within.refl V).drew
        have hC9 := (((HC.out.of hX).aside (p := ⟨w.heap.size, 0, none⟩) (by show rb ≠ w.heap.size; omega) (.int .i64 (y : Int))).aside (p := ⟨w.heap.size, 1, none⟩) (by show rb ≠ w.heap.size; omega) (.int .i64 (a : Int))).of (hd _)
        have hK9 : But w.heap.size w0 (((w0.setCell ⟨w.heap.size, 0, none⟩ (.int .i64 (y : Int))).setCell ⟨w.heap.size, 1, none⟩ (.int .i64 (a : Int))).drew) := (((But.refl w.heap.size w0).set (.inl rfl) _).set (.inl rfl) _).drew
        have hL9 := (HL.out.of hX).but hK9 (by omega)
        have hI9 : Within w (((w0.setCell ⟨w.heap.size, 0, none⟩ (.int .i64 (y : Int))).setCell ⟨w.heap.size, 1, none⟩ (.int .i64 (a : Int))).drew) := ((((HWW0.out.trans hXT).setCell (Nat.le_refl _) _).setCell (Nat.le_refl _) _).drew)
        obtain ⟨e1, e2, hP9⟩ := ReadP.done (w := w) HV.out HY.out ha8 hC9 hL9 (by omega) (by omega) hI9
        rw [Exit.noGoto_ret]
        refine bodyPost_ret (v := .tuple #[.pointer (some ⟨rb, 0, none⟩), .agg #[.int .i64 (y : Int), .int .i64 (a : Int)]]) (by simp [results, Tryz.results35, go_sem, q0, q1, q2, q3, qs4]) rfl (.inr ⟨HM.out, rb, ?_, hP9⟩)
        rw [e1, e2]
      · clear hP
        obtain ⟨hrel, hle⟩ := ReadRel.more HB.out HIN.out hwrb (by omega) ha ha8 HV.out hB hy hC' hL' hS'
        have p4 := hC'.2.1
        have HREL' := Lib.hid hrel; clear hrel hy hC' hL' hS'
        go_wp2_with fail
        go_round
        case rel => exact HREL'.out
        case measure => rw [p1, p4]; simp only [Option.getD_some, intOf]; omega
  · have hne : (s.toList == [66, 73, 78, 76, 79, 71, 49, 10]) = false := by rw [← magic_list, beq_eq_false_iff_ne]; exact fun e => hm (strB_inj (HB.out.take 8) magic_bytes (by rw [← hs]; exact e))
    have HN := Lib.hid hm; clear hm hs
    go_enter Tryz.func35, Tryz.ntmps35
    go_wp2
    refine wp_scope_straight ?_
    go_wp2
    rw [Exit.noGoto_ret]
    refine bodyPost_ret (v := .tuple #[.pointer none, .agg #[.int .i64 1, .int .i64 0]]) (by simp [results, Tryz.results35, go_sem]) rfl (.inl ⟨HN.out, rfl, ?_⟩)
    exact (by repeat (first | with_reducible exact Within.refl _ | with_reducible assumption | with_reducible refine Within.alloc ?_ _ | with_reducible refine Within.drew ?_ | with_reducible refine Within.drewN ?_ _ | with_reducible refine Within.setCell ?_ (by first | (simp; done) | (simp; omega)) _ | with_reducible refine Within.trans ?_ (by assumption)))
end Go.Proofs.YtpmjlaiafgbjgaaGreatDoor
end

section
namespace Go.Proofs.YtpmjlaiafgbjgaaGreatDoor
open Go.RowKit
def logRead (b : List Nat) : List Rec × Nat × Nat := if b.take 8 = magicV then ((readV pf (b.drop 8) 0 startV).1, (readV pf (b.drop 8) 0 startV).2.1, 8 + (readV pf (b.drop 8) 0 startV).2.2.1) else ([], 1, 0)
theorem logRead_no {b : List Nat} (h : b.take 8 ≠ magicV) : logRead b = ([], 1, 0) := if_neg h
theorem logRead_yes {b : List Nat} (h : b.take 8 = magicV) : logRead b = ((readV pf (b.drop 8) 0 startV).1, (readV pf (b.drop 8) 0 startV).2.1, 8 + (readV pf (b.drop 8) 0 startV).2.2.1) := if_pos h
set_option maxRecDepth 100000 in
set_option maxHeartbeats 1000000 in
theorem Read_any (A : Option Addr) (c : Nat) (b : List Nat) (hb : Bytes b) (hlen : b.length ≤ 140737488355328) (hc : b.length ≤ c) (w : World) (hT : FmS w) (hr : SlAt w A (u8v b)) : Calls Tryz.prog 18 #[.slice A b.length c] w fun e w' => ∃ lv, e = .returned (.tuple #[lv, .agg #[.int .i64 ((logRead b).2.1 : Int), .int .i64 ((logRead b).2.2 : Int)]]) ∧ RecsO w' w.heap.size lv ((logRead b).1.map Rec.i) ∧ Within w w' := by
  have RDA := Lib.hid (read_any A c b hb hlen hc (w.alloc (.cells #[.int .i64 0, .int .i64 0] 42)) (hT.of ((Within.refl w).alloc _)) (hr.of ((Within.refl w).alloc _)))
  clear hb hT hr
  obtain ⟨⟨rs, y, a⟩, hlr⟩ : ∃ t, logRead b = t := ⟨_, rfl⟩
  rw [hlr]
  have HLR := Lib.hid hlr; clear hlr
  go_enter Tryz.func18, Tryz.ntmps18
  go_wp2_with fail
  refine RDA.out.mono ?_; rintro e1 w1 hP
  clear RDA
  rcases hP with ⟨hn, rfl, h1⟩ | ⟨hm, rb, rfl, hP⟩
  · obtain ⟨rfl, rfl, rfl⟩ : rs = [] ∧ y = 1 ∧ a = 0 := by have := HLR.out; rw [logRead_no hn] at this; simp only [Prod.mk.injEq] at this; exact ⟨this.1.symm, this.2.1.symm, this.2.2.symm⟩
    clear hn HLR
    have hWT : Within w (w.alloc (.cells #[.int .i64 0, .int .i64 0] 42)) := (Within.refl w).alloc _
    have q0 : w1.cell? ⟨w.heap.size, 0, none⟩ = some (.int .i64 0) := (h1.cells _ _ (by simp)).trans (by simp)
    have q1 : w1.cell? ⟨w.heap.size, 1, none⟩ = some (.int .i64 0) := (h1.cells _ _ (by simp)).trans (by simp)
    have qf0 : w1.frozen? ⟨w.heap.size, 0, none⟩ = false := (h1.frozens _ _ (by simp)).trans (by simp)
    have qf1 : w1.frozen? ⟨w.heap.size, 1, none⟩ = false := (h1.frozens _ _ (by simp)).trans (by simp)
    have qs : w.heap.size < w1.heap.size := Nat.lt_of_lt_of_le (by simp) h1.size
    have H1 := Lib.hid h1; clear h1
    go_wp2
    have hA : Within w1 (w1.alloc (.cells #[.int .i64 1, .int .i64 0] 42)) := (Within.refl w1).alloc _
    have a0 : (w1.alloc (.cells #[.int .i64 1, .int .i64 0] 42)).cell? ⟨w1.heap.size, 0, none⟩ = some (.int .i64 1) := by simp
    have a1 : (w1.alloc (.cells #[.int .i64 1, .int .i64 0] 42)).cell? ⟨w1.heap.size, 1, none⟩ = some (.int .i64 0) := by simp
    have a2 : w1.heap.size < (w1.alloc (.cells #[.int .i64 1, .int .i64 0] 42)).heap.size := by simp
    have qne : ¬ w.heap.size = w1.heap.size := by omega
    refine wp_region_schG (fun W => W.cell? ⟨w.heap.size, 0, none⟩ = some (.int .i64 0) ∧ W.cell? ⟨w.heap.size, 1, none⟩ = some (.int .i64 0) ∧ W.cell? ⟨w1.heap.size, 0, none⟩ = some (.int .i64 1) ∧ W.cell? ⟨w1.heap.size, 1, none⟩ = some (.int .i64 0) ∧ w.heap.size < W.heap.size ∧ w1.heap.size < W.heap.size ∧ W.frozen? ⟨w.heap.size, 0, none⟩ = false ∧ W.frozen? ⟨w.heap.size, 1, none⟩ = false ∧ Within w1 W) 2 (.firm 0 (.firm 1 (.one 2 .nil))) (by kernel_rfl) (by kernel_rfl) ⟨(hA.cells _ 0 qs).trans q0, (hA.cells _ 1 qs).trans q1, a0, a1, Nat.lt_of_lt_of_le qs hA.size, a2, (hA.frozens _ 0 qs).trans qf0, (hA.frozens _ 1 qs).trans qf1, hA⟩ ?_
    rintro w0 ⟨q0, q1, p0, p1, qs, ps, qf0, qf1, hw0⟩
    try simp only [Act.put, List.setIfInBounds_toArray, List.set_cons_zero, List.set_cons_succ]
    iterate 2
      apply sch_firm rfl rfl (by repeat (first | with_reducible exact Within.refl _ | with_reducible assumption | with_reducible refine Within.alloc ?_ _ | with_reducible refine Within.drew ?_ | with_reducible refine Within.drewN ?_ _ | with_reducible refine Within.setCell ?_ (by first | (simp; done) | (simp; omega)) _ | with_reducible refine Within.trans ?_ (by assumption)))
      · intro wq hq
        have hcq := hq.cells
        clear hq
        go_simp
        rfl
      try simp only [Act.put, List.setIfInBounds_toArray, List.set_cons_zero, List.set_cons_succ]
    refine sch_one rfl rfl (fun K hK => ?_)
    go_simp
    refine hK _ _ (fun h => absurd h (by decide)) ?_
    clear hK K
    try simp only [Act.put, List.setIfInBounds_toArray, List.set_cons_zero, List.set_cons_succ]
    refine sch_nil ?_
    go_wp2
    have hX : Within w w0 := (Within.trans ((Within.refl w).alloc _) (H1.out.trans hw0))
    have hK9 : But w.heap.size w0 (((w0.setCell ⟨w.heap.size, 0, none⟩ (.int .i64 1)).setCell ⟨w.heap.size, 1, none⟩ (.int .i64 0)).drew) := (((But.refl w.heap.size w0).set (.inl rfl) _).set (.inl rfl) _).drew
    have hI9 : Within w (((w0.setCell ⟨w.heap.size, 0, none⟩ (.int .i64 1)).setCell ⟨w.heap.size, 1, none⟩ (.int .i64 0)).drew) := (((hX.setCell (Nat.le_refl _) _).setCell (Nat.le_refl _) _).drew)
    refine bodyPost_ret (v := .tuple #[.slice none 0 0, .agg #[.int .i64 1, .int .i64 0]]) (by simp [results, Tryz.results18, go_sem, q0, q1, qf0, qf1, qs]) rfl ⟨_, rfl, RecsO.nil_ _ _, hI9⟩
  · obtain ⟨lv, hwrb, hC, hL, h1⟩ := hP
    obtain ⟨hrs, hy, ha⟩ : (readV pf (b.drop 8) 0 startV).1 = rs ∧ (readV pf (b.drop 8) 0 startV).2.1 = y ∧ 8 + (readV pf (b.drop 8) 0 startV).2.2.1 = a := by have := HLR.out; rw [logRead_yes hm] at this; simpa only [Prod.mk.injEq] using this
    obtain ⟨k, hk⟩ : ∃ k, (readV pf (b.drop 8) 0 startV).2.2.2 = k := ⟨_, rfl⟩
    rw [hy, ha]
    rw [ha, hk] at hC
    rw [hrs] at hL
    clear hy ha hrs hk hm HLR
    have hWT : Within w (w.alloc (.cells #[.int .i64 0, .int .i64 0] 42)) := (Within.refl w).alloc _
    have q0 : w1.cell? ⟨w.heap.size, 0, none⟩ = some (.int .i64 0) := (h1.cells _ _ (by simp)).trans (by simp)
    have q1 : w1.cell? ⟨w.heap.size, 1, none⟩ = some (.int .i64 0) := (h1.cells _ _ (by simp)).trans (by simp)
    have qf0 : w1.frozen? ⟨w.heap.size, 0, none⟩ = false := (h1.frozens _ _ (by simp)).trans (by simp)
    have qf1 : w1.frozen? ⟨w.heap.size, 1, none⟩ = false := (h1.frozens _ _ (by simp)).trans (by simp)
    have qs : w.heap.size < w1.heap.size := Nat.lt_of_lt_of_le (by simp) h1.size
    have p3 := hC.2.2.2.1
    have hrb1 := hC.lt
    have H1 := Lib.hid h1; have HC := Lib.hid hC; have HL := Lib.hid hL; clear h1 hC hL
    obtain ⟨Al, cl, rfl, hx5, hx6, hx7, hx8⟩ := HL.out.at
    clear hx5 hx6 hx7 hx8
    go_wp2
    have hA : Within w1 (w1.alloc (.cells #[.int .i64 (y : Int), .int .i64 (a : Int)] 42)) := (Within.refl w1).alloc _
    have a0 : (w1.alloc (.cells #[.int .i64 (y : Int), .int .i64 (a : Int)] 42)).cell? ⟨w1.heap.size, 0, none⟩ = some (.int .i64 (y : Int)) := by simp
    have a1 : (w1.alloc (.cells #[.int .i64 (y : Int), .int .i64 (a : Int)] 42)).cell? ⟨w1.heap.size, 1, none⟩ = some (.int .i64 (a : Int)) := by simp
    have a2 : w1.heap.size < (w1.alloc (.cells #[.int .i64 (y : Int), .int .i64 (a : Int)] 42)).heap.size := by simp
    have qne : ¬ w.heap.size = w1.heap.size := by omega
    refine wp_region_schG (fun W => W.cell? ⟨w.heap.size, 0, none⟩ = some (.int .i64 0) ∧ W.cell? ⟨w.heap.size, 1, none⟩ = some (.int .i64 0) ∧ W.cell? ⟨w1.heap.size, 0, none⟩ = some (.int .i64 (y : Int)) ∧ W.cell? ⟨w1.heap.size, 1, none⟩ = some (.int .i64 (a : Int)) ∧ w.heap.size < W.heap.size ∧ w1.heap.size < W.heap.size ∧ W.frozen? ⟨w.heap.size, 0, none⟩ = false ∧ W.frozen? ⟨w.heap.size, 1, none⟩ = false ∧ W.cell? ⟨rb, 3, none⟩ = some (.slice Al (rs.map Rec.i).length cl) ∧ rb < W.heap.size ∧ Within w1 W) 6 (.firm 0 (.firm 1 (.firm 2 (.firm 3 (.firm 4 (.firm 5 (.one 6 .nil))))))) (by kernel_rfl) (by kernel_rfl) ⟨(hA.cells _ 0 qs).trans q0, (hA.cells _ 1 qs).trans q1, a0, a1, Nat.lt_of_lt_of_le qs hA.size, a2, (hA.frozens _ 0 qs).trans qf0, (hA.frozens _ 1 qs).trans qf1, (hA.cells _ 3 hrb1).trans p3, Nat.lt_of_lt_of_le hrb1 hA.size, hA⟩ ?_
    rintro w0 ⟨q0, q1, p0, p1, qs, ps, qf0, qf1, p3, hrb1, hw0⟩
    try simp only [Act.put, List.setIfInBounds_toArray, List.set_cons_zero, List.set_cons_succ]
    iterate 6
      apply sch_firm rfl rfl (by repeat (first | with_reducible exact Within.refl _ | with_reducible assumption | with_reducible refine Within.alloc ?_ _ | with_reducible refine Within.drew ?_ | with_reducible refine Within.drewN ?_ _ | with_reducible refine Within.setCell ?_ (by first | (simp; done) | (simp; omega)) _ | with_reducible refine Within.trans ?_ (by assumption)))
      · intro wq hq
        have hcq := hq.cells
        clear hq
        go_simp
        rfl
      try simp only [Act.put, List.setIfInBounds_toArray, List.set_cons_zero, List.set_cons_succ]
    refine sch_one rfl rfl (fun K hK => ?_)
    go_simp
    refine hK _ _ (fun h => absurd h (by decide)) ?_
    clear hK K
    try simp only [Act.put, List.setIfInBounds_toArray, List.set_cons_zero, List.set_cons_succ]
    refine sch_nil ?_
    go_wp2
    have hX : Within w w0 := (Within.trans ((Within.refl w).alloc _) (H1.out.trans hw0))
    have hK9 : But w.heap.size w0 (((w0.setCell ⟨w.heap.size, 0, none⟩ (.int .i64 (y : Int))).setCell ⟨w.heap.size, 1, none⟩ (.int .i64 (a : Int))).drew) := (((But.refl w.heap.size w0).set (.inl rfl) _).set (.inl rfl) _).drew
    have hI9 : Within w (((w0.setCell ⟨w.heap.size, 0, none⟩ (.int .i64 (y : Int))).setCell ⟨w.heap.size, 1, none⟩ (.int .i64 (a : Int))).drew) := (((hX.setCell (Nat.le_refl _) _).setCell (Nat.le_refl _) _).drew)
    have hL9 := (HL.out.of hw0).keep (w' := ((w0.setCell ⟨w.heap.size, 0, none⟩ (.int .i64 (y : Int))).setCell ⟨w.heap.size, 1, none⟩ (.int .i64 (a : Int))).drew) (fun j hj hl => hK9.block j hl (fun e => by have := Option.some.inj e; simp at hj; omega))
    refine bodyPost_ret (v := .tuple #[.slice Al (rs.map Rec.i).length cl, .agg #[.int .i64 (y : Int), .int .i64 (a : Int)]]) (by simp [results, Tryz.results18, go_sem, q0, q1, qf0, qf1, qs]) rfl ⟨_, rfl, hL9.less (by simp), hI9⟩
end Go.Proofs.YtpmjlaiafgbjgaaGreatDoor
end

section
namespace Go.Proofs.YtpmjlaiafgbjgaaGreatDoor
open Go.RowKit
theorem Within.grown {a b c : World} {row : Option Nat} (h : Within a b) (k : b.grownBy c row) (hr : ∀ j, row = some j → a.heap.size ≤ j) : Within a c :=
  h.asides ((ButS.refl (fun j => row = some j) b).grown k (fun j hj => .inl hj)) hr
def RrdRel (WT : World) (b : List Nat) (lv av kv : Value) (wr : World) : Prop := ∃ (a k : Nat) (rs : List Rec), av = .int .i64 (a : Int) ∧ kv = .int .u32 (k : Int) ∧ RecsO wr WT.heap.size lv (rs.map Rec.i) ∧ Within WT wr ∧ a ≤ b.length ∧ 8 ≤ a ∧ k < 4294967296 ∧ rs.length ≤ 1048576 ∧
  readV pf (b.drop 8) 0 startV = (rs ++ (readV pf (b.drop a) rs.length k).1, (readV pf (b.drop a) rs.length k).2.1, (a - 8) + (readV pf (b.drop a) rs.length k).2.2.1, (readV pf (b.drop a) rs.length k).2.2.2)
theorem RrdRel.start {WT W : World} {b : List Nat} (h8 : 8 ≤ b.length) (hW : Within WT W) : RrdRel WT b (.slice none 0 0) (.int .i64 8) (.int .u32 (startV : Int)) W :=
  ⟨8, startV, [], rfl, rfl, RecsO.nil_ _ _, hW, h8, Nat.le_refl _, startV_lt, by simp, by simp⟩
end Go.Proofs.YtpmjlaiafgbjgaaGreatDoor
end

section
namespace Go.Proofs.YtpmjlaiafgbjgaaGreatDoor
open Go.RowKit
def linksV : List Rec → Nat → Nat → List Nat
  | [], _, _ => []
  | r :: l, n, last => nextV r n last :: linksV l (n + 1) (nextV r n last)
theorem linksV_len : ∀ (l : List Rec) (n last : Nat), (linksV l n last).length = l.length
  | [], _, _ => rfl
  | r :: l, n, last => by show (linksV l _ _).length + 1 = l.length + 1; rw [linksV_len l]
theorem linksV_snoc : ∀ (l : List Rec) (r : Rec) (n last : Nat), linksV (l ++ [r]) n last = linksV l n last ++ [nextV r (n + l.length) (lastV l n last)]
  | [], r, n, last => rfl
  | q :: l, r, n, last => by
    show nextV q n last :: linksV (l ++ [r]) (n + 1) (nextV q n last) = nextV q n last :: (linksV l (n + 1) (nextV q n last) ++ _)
    rw [linksV_snoc l]
    show _ = nextV q n last :: (_ ++ [nextV r (n + (l.length + 1)) (lastV l (n + 1) (nextV q n last))])
    rw [show n + (l.length + 1) = n + 1 + l.length by omega]
theorem lastV_snoc : ∀ (l : List Rec) (r : Rec) (n last : Nat), lastV (l ++ [r]) n last = nextV r (n + l.length) (lastV l n last)
  | [], r, n, last => rfl
  | q :: l, r, n, last => by
    show lastV (l ++ [r]) (n + 1) (nextV q n last) = nextV r (n + (l.length + 1)) (lastV l (n + 1) (nextV q n last))
    rw [lastV_snoc l, show n + (l.length + 1) = n + 1 + l.length by omega]
theorem laidV_snoc : ∀ (l : List Rec) (r : Rec) (n last : Nat), laidV (l ++ [r]) n last = laidV l n last ++ layV r (n + l.length) (lastV l n last)
  | [], r, n, last => by show layV r n last ++ [] = [] ++ layV r n last; rw [List.append_nil, List.nil_append]
  | q :: l, r, n, last => by
    show layV q n last ++ laidV (l ++ [r]) (n + 1) (nextV q n last) = (layV q n last ++ laidV l (n + 1) (nextV q n last)) ++ layV r (n + (l.length + 1)) (lastV l (n + 1) (nextV q n last))
    rw [laidV_snoc l, show n + (l.length + 1) = n + 1 + l.length by omega, List.append_assoc]
theorem logV_snoc (l : List Rec) (r : Rec) : logV (l ++ [r]) = logV l ++ layV r l.length (lastV l 0 startV) := by
  unfold logV; rw [laidV_snoc, Nat.zero_add, List.append_assoc]
theorem linksV_last : ∀ (l : List Rec) (n last : Nat), l ≠ [] → (linksV l n last).getD (l.length - 1) 0 = lastV l n last
  | [], _, _, h => absurd rfl h
  | [r], n, last, _ => by
    show ([nextV r n last] : List Nat).getD 0 0 = nextV r n last
    exact List.getD_cons_zero
  | r :: q :: l, n, last, _ => by
    have h := linksV_last (q :: l) (n + 1) (nextV r n last) (by simp)
    show (nextV r n last :: linksV (q :: l) (n + 1) (nextV r n last)).getD (l.length + 1) 0 = lastV (q :: l) (n + 1) (nextV r n last)
    rw [List.getD_cons_succ]
    exact h
end Go.Proofs.YtpmjlaiafgbjgaaGreatDoor
end

section
namespace Go.Proofs.YtpmjlaiafgbjgaaGreatDoor
open Go.RowKit
def u32v (l : List Nat) : List Value := l.map fun (x : Nat) => Value.int .u32 (x : Int)
set_option maxRecDepth 100000 in
set_option maxHeartbeats 1000000 in
theorem last_none (xb : Nat) (K : Option Addr) (ck : Nat) (w : World) (h2 : w.cell? ⟨xb, 2, none⟩ = some (.slice K 0 ck)) : Calls Tryz.prog 58 #[.pointer (some ⟨xb, 0, none⟩)] w fun e w' => e = .returned (.int .u32 (startV : Int)) ∧ Within w w' := by
  go_enter Tryz.func58, Tryz.ntmps58
  go_wp2_with fail
  refine (begin_any _).mono ?_; rintro e1 w1 ⟨rfl, h1⟩
  go_wp2
  go_ret
  exact ⟨rfl, (by repeat (first | with_reducible exact Within.refl _ | with_reducible assumption | with_reducible refine Within.alloc ?_ _ | with_reducible refine Within.drew ?_ | with_reducible refine Within.drewN ?_ _ | with_reducible refine Within.setCell ?_ (by first | (simp; done) | (simp; omega)) _ | with_reducible refine Within.trans ?_ (by assumption)))⟩
set_option maxRecDepth 100000 in
set_option maxHeartbeats 1000000 in
theorem last_some (xb : Nat) (ad : Addr) (ck n x : Nat) (hn : n ≤ 1048576) (w : World) (h2 : w.cell? ⟨xb, 2, none⟩ = some (.slice (some ad) (n + 1) ck)) (hx : w.cell? (ad.add n) = some (.int .u32 (x : Int))) : Calls Tryz.prog 58 #[.pointer (some ⟨xb, 0, none⟩)] w fun e w' => e = .returned (.int .u32 (x : Int)) ∧ Within w w' := by
  have v1 : (0 : Int) < (n : Int) + 1 := by omega
  have v2 : (n : Int) + 1 - 1 = (n : Int) := by omega
  have v3 : (n : Int) < (n : Int) + 1 := by omega
  have v4 : n < n + 1 := by omega
  have v5 : (0 : Int) ≤ (n : Int) := by omega
  go_enter Tryz.func58, Tryz.ntmps58
  go_wp2
  go_ret
  exact ⟨rfl, (by repeat (first | with_reducible exact Within.refl _ | with_reducible assumption | with_reducible refine Within.alloc ?_ _ | with_reducible refine Within.drew ?_ | with_reducible refine Within.drewN ?_ _ | with_reducible refine Within.setCell ?_ (by first | (simp; done) | (simp; omega)) _ | with_reducible refine Within.trans ?_ (by assumption)))⟩
end Go.Proofs.YtpmjlaiafgbjgaaGreatDoor
end

section
namespace Go.Proofs.YtpmjlaiafgbjgaaGreatDoor
open Go.RowKit
def Apart (u v : Value) : Prop := u.ownBlock = none ∨ u.ownBlock ≠ v.ownBlock
theorem Apart.symm {u v : Value} (h : Apart u v) : Apart v u := by
  unfold Apart at *
  cases hv : v.ownBlock with
  | none => exact .inl rfl
  | some j => rcases h with h | h
              · exact .inr (by rw [h]; simp)
              · exact .inr (by rw [← hv]; exact Ne.symm h)
end Go.Proofs.YtpmjlaiafgbjgaaGreatDoor
end

section
namespace Go.Proofs.YtpmjlaiafgbjgaaGreatDoor
open Go.RowKit
theorem Tryz.infoU32 : (Tryz.prog.info? 48).map (fun i => (i.zero, i.size, i.bytes)) = some (some (.int .u32 0), 1, 4) := by kernel_rfl
theorem u32v_len (l : List Nat) : (u32v l).length = l.length := List.length_map _
theorem u32v_one (l : List Nat) : ∀ u ∈ u32v l, u.oneCell' = true := by
  intro u hu; unfold u32v at hu; obtain ⟨x, _, rfl⟩ := List.mem_map.1 hu; rfl
theorem run_app_u8g (w : World) (base : Nat) (v : Value) (l m : List Nat) (hown : OwnB w base v l) (A : Option Addr) (c : Nat) (hr : SlAt w A (u8v m)) (hl : l.length + m.length ≤ 140737488355328) (hbase : base ≤ w.heap.size) :
    ∃ v' w', (Builtin.append_ #[28, 28] 28 #[v, .slice A m.length c]).run Tryz.prog w = .ok v' w' ∧ OwnB w' base v' (l ++ m) ∧ w.grownBy w' v.ownBlock ∧ (v'.ownBlock = v.ownBlock ∨ v'.ownBlock = some w.heap.size) := by
  obtain ⟨i0, hi0, hz0, hz1, hz2⟩ := info_parts Tryz.infoU8
  obtain ⟨v', w', h1, h2, h3, h5⟩ := run_app (P := Tryz.prog) w base 28 28 5 i0 (.int .u8 0) 1 (by kernel_rfl) hi0 hz0 hz1 hz2 rfl v l.length (u8v l) hown A c (u8v m) hr (u8v_one m) (by rw [u8v_len]; unfold maxLen; omega) (by rw [u8v_len]; omega) hbase
  rw [u8v_len] at h1 h2
  refine ⟨v', w', h1, ?_, h3, h5⟩
  unfold OwnB u8v
  rw [List.length_append, List.map_append]; exact h2
theorem run_app_u32g (w : World) (base : Nat) (v : Value) (l : List Nat) (x : Nat) (hown : w.ownsRow base 48 1 v l.length (u32v l)) (A : Option Addr) (c : Nat) (hr : SlAt w A (u32v [x])) (hl : (l.length + 1) * 4 ≤ 140737488355328) (hbase : base ≤ w.heap.size) :
    ∃ v' w', (Builtin.append_ #[73, 73] 73 #[v, .slice A 1 c]).run Tryz.prog w = .ok v' w' ∧ w'.ownsRow base 48 1 v' (l.length + 1) (u32v (l ++ [x])) ∧ w.grownBy w' v.ownBlock ∧ (v'.ownBlock = v.ownBlock ∨ v'.ownBlock = some w.heap.size) := by
  obtain ⟨i0, hi0, hz0, hz1, hz2⟩ := info_parts Tryz.infoU32
  obtain ⟨v', w', h1, h2, h3, h5⟩ := run_app (P := Tryz.prog) w base 73 73 48 i0 (.int .u32 0) 4 (by kernel_rfl) hi0 hz0 hz1 hz2 rfl v l.length (u32v l) hown A c (u32v [x]) hr (u32v_one [x]) (by rw [u32v_len]; unfold maxLen; simp; omega) (by rw [u32v_len]; simp; omega) hbase
  refine ⟨v', w', h1, ?_, h3, h5⟩
  unfold u32v at h2 ⊢
  rw [List.map_append]; exact h2
def OwnM (w : World) (base : Nat) (v : Value) (l : List Nat) : Prop := OwnB w base v l ∨
  ∃ g, v = .slice (some ⟨g, 0, none⟩) l.length l.length ∧ base ≤ g ∧ w.heap[g]? = some (.cells (u8v l).toArray 5 (l.length, l.length + 1)) ∧ 0 < l.length
theorem OwnM.lt {w : World} {base : Nat} {v : Value} {l : List Nat} (h : OwnM w base v l) : ∀ j, v.ownBlock = some j → base ≤ j ∧ j < w.heap.size := by
  rcases h with h | ⟨g, rfl, hb, hg, _⟩
  · exact h.lt
  · intro j hj
    obtain rfl : g = j := Option.some.inj hj
    exact ⟨hb, (Array.getElem?_eq_some_iff.1 hg).1⟩
theorem OwnM.keep {w w' : World} {base : Nat} {v : Value} {l : List Nat} (h : OwnM w base v l) (k : ∀ j, v.ownBlock = some j → w'.heap[j]? = w.heap[j]?) : OwnM w' base v l := by
  rcases h with h | ⟨g, rfl, hb, hg, hl⟩
  · exact .inl (ownsRow_keep h k)
  · exact .inr ⟨g, rfl, hb, (k g rfl).trans hg, hl⟩
theorem OwnM.form {w : World} {base : Nat} {v : Value} {l : List Nat} (h : OwnM w base v l) : ∃ A c, v = .slice A l.length c ∧ l.length ≤ c ∧ SlAt w A (u8v l) ∧ (∀ ad, A = some ad → base ≤ ad.block) := by
  rcases h with h | ⟨g, rfl, hb, hg, hl⟩
  · exact h.form
  · refine ⟨_, _, rfl, Nat.le_refl _, fun _ => ⟨_, rfl, (Array.getElem?_eq_some_iff.1 hg).1, fun j u hu => ?_⟩, fun ad e => by injection e with e; subst e; exact hb⟩
    rw [add_at, cell_of_row w g j _ _ _ hg]
    simpa using hu
theorem run_app_m (w : World) (base : Nat) (v : Value) (l m : List Nat) (hown : OwnM w base v l) (A : Option Addr) (c : Nat) (hr : SlAt w A (u8v m)) (hm : 0 < m.length) (hl : l.length + m.length ≤ 140737488355328) (hbase : base ≤ w.heap.size) :
    ∃ v' w', (Builtin.append_ #[28, 28] 28 #[v, .slice A m.length c]).run Tryz.prog w = .ok v' w' ∧ OwnM w' base v' (l ++ m) ∧ w.grownBy w' v.ownBlock ∧ (v'.ownBlock = v.ownBlock ∨ v'.ownBlock = some w.heap.size) := by
  rcases hown with h | ⟨g, rfl, hb, hg, hl0⟩
  · obtain ⟨v', w', h1, h2, h3, h4⟩ := run_app_u8g w base v l m h A c hr hl hbase
    exact ⟨v', w', h1, .inl h2, h3, h4⟩
  · obtain ⟨i0, hi0, hz0, hz1, hz2⟩ := info_parts Tryz.infoU8
    obtain ⟨ad, rfl, _, hc⟩ := hr (by rw [u8v_len]; exact hm)
    have hcells : ∀ (j : Nat) u, (u8v l)[j]? = some u → w.cell? ((⟨g, 0, none⟩ : Addr).add j) = some u := fun j u hu => by
      rw [add_at, cell_of_row w g j _ _ _ hg]
      simpa using hu
    have hrun := run_append_grow (P := Tryz.prog) (w := w) 28 28 5 i0 (.int .u8 0) (by kernel_rfl) hi0 hz0 ⟨g, 0, none⟩ l.length l.length (u8v l) (by rw [u8v_len, hz1, Nat.mul_one]) hcells ad m.length c (u8v m) (by rw [u8v_len, hz1, Nat.mul_one]) hc (by omega) (by omega) (by
      rw [hz2]
      exact growslice_fits (by omega) (by omega))
    have hge := grownCap_ge w (l.length + m.length) l.length 5
    have hcm := grownCap_le_maxLen w (l.length + m.length) l.length 5 (by unfold maxLen; omega)
    obtain ⟨N, hN⟩ : ∃ N, grownCap w (l.length + m.length) l.length 5 = N := ⟨_, rfl⟩
    rw [hN] at hrun hge hcm
    have e1 : (u8v (l ++ m)).length = (l.length + m.length) * 1 := by rw [u8v_len, List.length_append, Nat.mul_one]
    have e2 : u8v (l ++ m) = u8v l ++ u8v m := List.map_append
    refine ⟨_, _, hrun, .inl ?_, ⟨rfl, rfl, rfl, by simp, fun k hk _ => heap_alloc_old w.drew _ hk⟩, .inr rfl⟩
    unfold OwnB
    rw [List.length_append]
    refine ⟨e1, .inr ⟨w.heap.size, _, _, rfl, hbase, heap_alloc_new w.drew _, hge, hcm, ?_, ?_⟩⟩
    · simp only [Array.size_append, List.size_toArray, size_zeroCells, u8v_len]
      rw [show (Value.int IntKind.u8 0).cells.size = 1 from rfl]
      omega
    · simp only [Array.toList_append]
      rw [← e1, e2, List.take_left' rfl]
end Go.Proofs.YtpmjlaiafgbjgaaGreatDoor
end

section
namespace Go.Proofs.YtpmjlaiafgbjgaaGreatDoor
open Go.RowKit
structure Rws (w : World) (base : Nat) (ps : List (IRec × Value)) (lv : Value) (ks : List Nat) (kv : Value) (bs : List Nat) (bv : Value) : Prop where
  recs : RecP w base lv ps
  links : w.ownsRow base 48 1 kv ks.length (u32v ks)
  bytes : OwnM w base bv bs
  lk : Apart lv kv
  lb : Apart lv bv
  kb : Apart kv bv
  pk : ∀ p ∈ ps, Apart p.2 kv ∧ Apart p.2 bv
theorem RecP.keep {w w' : World} {base : Nat} {v : Value} {ps : List (IRec × Value)} (h : RecP w base v ps) (k1 : ∀ j, v.ownBlock = some j → w'.heap[j]? = w.heap[j]?) (k2 : ∀ p ∈ ps, ∀ j, p.2.ownBlock = some j → w'.heap[j]? = w.heap[j]?) : RecP w' base v ps :=
  ⟨ownsRow_keep h.1 k1, fun p hp => ⟨ownsRow_keep (h.2 p hp).1 (k2 p hp), (h.2 p hp).2⟩⟩
theorem Rws.keep {w w' : World} {base : Nat} {ps : List (IRec × Value)} {lv : Value} {ks : List Nat} {kv : Value} {bs : List Nat} {bv : Value} (h : Rws w base ps lv ks kv bs bv) (k : ∀ j, base ≤ j → j < w.heap.size → w'.heap[j]? = w.heap[j]?) : Rws w' base ps lv ks kv bs bv :=
  ⟨h.recs.keep (fun j hj => k j (h.recs.1.lt j hj).1 (h.recs.1.lt j hj).2) (fun p hp j hj => k j ((h.recs.2 p hp).1.lt j hj).1 ((h.recs.2 p hp).1.lt j hj).2), ownsRow_keep h.links (fun j hj => k j (h.links.lt j hj).1 (h.links.lt j hj).2), h.bytes.keep (fun j hj => k j (h.bytes.lt j hj).1 (h.bytes.lt j hj).2), h.lk, h.lb, h.kb, h.pk⟩
theorem Rws.of {w w' : World} {base : Nat} {ps : List (IRec × Value)} {lv : Value} {ks : List Nat} {kv : Value} {bs : List Nat} {bv : Value} (h : Rws w base ps lv ks kv bs bv) (k : Within w w') : Rws w' base ps lv ks kv bs bv := h.keep fun j _ hj => k.block j hj
theorem Rws.but {w w' : World} {bk base : Nat} {ps : List (IRec × Value)} {lv : Value} {ks : List Nat} {kv : Value} {bs : List Nat} {bv : Value} (h : Rws w base ps lv ks kv bs bv) (k : But bk w w') (hb : bk < base) : Rws w' base ps lv ks kv bs bv := h.keep fun j hj hl => k.block j hl (fun e => by have := Option.some.inj e; omega)
theorem apart_kept {w w' : World} {row u : Value} (k : w.grownBy w' row.ownBlock) (h : Apart u row) (j : Nat) (hj : u.ownBlock = some j) (hl : j < w.heap.size) : w'.heap[j]? = w.heap[j]? :=
  k.block j hl (fun e => by rcases h with h | h; rw [h] at hj; cases hj; exact h (hj.trans e))
theorem apart_grown {w : World} {v v' u : Value} {N : Nat} (h : Apart v u) (hv : v'.ownBlock = v.ownBlock ∨ v'.ownBlock = some N) (hu : ∀ j, u.ownBlock = some j → j < N) : Apart v' u := by
  unfold Apart at *
  rcases hv with hv | hv
  · rw [hv]; exact h
  · refine .inr (fun e => ?_)
    rw [hv] at e
    have := hu N e.symm
    omega
theorem Rws.link {w : World} {base : Nat} {ps : List (IRec × Value)} {lv : Value} {ks : List Nat} {kv : Value} {bs : List Nat} {bv : Value} (h : Rws w base ps lv ks kv bs bv) (x : Nat) (A : Option Addr) (c : Nat) (hr : SlAt w A (u32v [x])) (hl : (ks.length + 1) * 4 ≤ 140737488355328) (hbase : base ≤ w.heap.size) :
    ∃ kv' w', (Builtin.append_ #[73, 73] 73 #[kv, .slice A 1 c]).run Tryz.prog w = .ok kv' w' ∧ Rws w' base ps lv (ks ++ [x]) kv' bs bv ∧ w.grownBy w' kv.ownBlock ∧ (kv'.ownBlock = kv.ownBlock ∨ kv'.ownBlock = some w.heap.size) := by
  obtain ⟨kv', w', h1, h2, h3, h4⟩ := run_app_u32g w base kv ks x h.links A c hr hl hbase
  refine ⟨kv', w', h1, ⟨h.recs.keep (fun j hj => apart_kept h3 h.lk j hj (h.recs.1.lt j hj).2) (fun p hp j hj => apart_kept h3 (h.pk p hp).1 j hj ((h.recs.2 p hp).1.lt j hj).2), ?_, h.bytes.keep (fun j hj => apart_kept h3 h.kb.symm j hj (h.bytes.lt j hj).2), ?_, h.lb, ?_, fun p hp => ⟨?_, (h.pk p hp).2⟩⟩, h3, h4⟩
  · rw [List.length_append]; exact h2
  · exact (apart_grown (w := w) h.lk.symm h4 (fun j hj => (h.recs.1.lt j hj).2)).symm
  · exact apart_grown (w := w) h.kb h4 (fun j hj => (h.bytes.lt j hj).2)
  · exact (apart_grown (w := w) (h.pk p hp).1.symm h4 (fun j hj => ((h.recs.2 p hp).1.lt j hj).2)).symm
theorem Rws.more {w : World} {base : Nat} {ps : List (IRec × Value)} {lv : Value} {ks : List Nat} {kv : Value} {bs : List Nat} {bv : Value} (h : Rws w base ps lv ks kv bs bv) (m : List Nat) (A : Option Addr) (c : Nat) (hr : SlAt w A (u8v m)) (hm : 0 < m.length) (hl : bs.length + m.length ≤ 140737488355328) (hbase : base ≤ w.heap.size) :
    ∃ bv' w', (Builtin.append_ #[28, 28] 28 #[bv, .slice A m.length c]).run Tryz.prog w = .ok bv' w' ∧ Rws w' base ps lv ks kv (bs ++ m) bv' ∧ w.grownBy w' bv.ownBlock ∧ (bv'.ownBlock = bv.ownBlock ∨ bv'.ownBlock = some w.heap.size) := by
  obtain ⟨bv', w', h1, h2, h3, h4⟩ := run_app_m w base bv bs m h.bytes A c hr hm hl hbase
  refine ⟨bv', w', h1, ⟨h.recs.keep (fun j hj => apart_kept h3 h.lb j hj (h.recs.1.lt j hj).2) (fun p hp j hj => apart_kept h3 (h.pk p hp).2 j hj ((h.recs.2 p hp).1.lt j hj).2), ownsRow_keep h.links (fun j hj => apart_kept h3 h.kb j hj (h.links.lt j hj).2), h2, h.lk, ?_, ?_, fun p hp => ⟨(h.pk p hp).1, ?_⟩⟩, h3, h4⟩
  · exact (apart_grown (w := w) h.lb.symm h4 (fun j hj => (h.recs.1.lt j hj).2)).symm
  · exact (apart_grown (w := w) h.kb.symm h4 (fun j hj => (h.links.lt j hj).2)).symm
  · exact (apart_grown (w := w) (h.pk p hp).2.symm h4 (fun j hj => ((h.recs.2 p hp).1.lt j hj).2)).symm
end Go.Proofs.YtpmjlaiafgbjgaaGreatDoor
end

section
namespace Go.Proofs.YtpmjlaiafgbjgaaGreatDoor
open Go.RowKit
def Owned (ps : List (IRec × Value)) (lv kv bv : Value) (j : Nat) : Prop := lv.ownBlock = some j ∨ kv.ownBlock = some j ∨ bv.ownBlock = some j ∨ ∃ p ∈ ps, p.2.ownBlock = some j
theorem Rws.keepO {w w' : World} {base : Nat} {ps : List (IRec × Value)} {lv : Value} {ks : List Nat} {kv : Value} {bs : List Nat} {bv : Value} (h : Rws w base ps lv ks kv bs bv) (k : ∀ j, Owned ps lv kv bv j → j < w.heap.size → w'.heap[j]? = w.heap[j]?) : Rws w' base ps lv ks kv bs bv :=
  ⟨h.recs.keep (fun j hj => k j (.inl hj) (h.recs.1.lt j hj).2) (fun p hp j hj => k j (.inr (.inr (.inr ⟨p, hp, hj⟩))) ((h.recs.2 p hp).1.lt j hj).2), ownsRow_keep h.links (fun j hj => k j (.inr (.inl hj)) (h.links.lt j hj).2), h.bytes.keep (fun j hj => k j (.inr (.inr (.inl hj))) (h.bytes.lt j hj).2), h.lk, h.lb, h.kb, h.pk⟩
theorem Rws.owned_lt {w : World} {base : Nat} {ps : List (IRec × Value)} {lv : Value} {ks : List Nat} {kv : Value} {bs : List Nat} {bv : Value} (h : Rws w base ps lv ks kv bs bv) {j : Nat} (hj : Owned ps lv kv bv j) : j < w.heap.size := by
  rcases hj with hj | hj | hj | ⟨p, hp, hj⟩
  · exact (h.recs.1.lt j hj).2
  · exact (h.links.lt j hj).2
  · exact (h.bytes.lt j hj).2
  · exact ((h.recs.2 p hp).1.lt j hj).2
structure LogS (w : World) (S : Nat → Prop) (xb : Nat) (rs : List Rec) : Prop where
  at_ : S xb
  made : w.cell? ⟨xb, 0, none⟩ = some (.int .i64 1)
  firm : ∀ o, w.frozen? ⟨xb, o, none⟩ = false
  rows : ∃ (ps : List (IRec × Value)) (lv kv bv : Value), ps.map Prod.fst = rs.map Rec.i ∧ w.cell? ⟨xb, 1, none⟩ = some lv ∧ w.cell? ⟨xb, 2, none⟩ = some kv ∧ w.cell? ⟨xb, 3, none⟩ = some bv ∧
    Rws w 0 ps lv (linksV rs 0 startV) kv (logV rs) bv ∧ ∀ j, Owned ps lv kv bv j → S j ∧ j ≠ xb
theorem LogS.lt {w : World} {S : Nat → Prop} {xb : Nat} {rs : List Rec} (h : LogS w S xb rs) : xb < w.heap.size := World.block_lt_of_cell? _ _ h.made
theorem LogS.keep {w w' : World} {S : Nat → Prop} {xb : Nat} {rs : List Rec} (h : LogS w S xb rs) (k : ∀ j, S j → j < w.heap.size → w'.heap[j]? = w.heap[j]?) : LogS w' S xb rs := by
  have hl := h.lt
  obtain ⟨h0, h1, h2, ps, lv, kv, bv, a1, a2, a3, a4, a5, a6⟩ := h
  have hx := k xb h0 hl
  exact ⟨h0, (World.cell?_of_block hx).trans h1, fun o => (World.frozen?_of_block hx).trans (h2 o), ps, lv, kv, bv, a1, (World.cell?_of_block hx).trans a2, (World.cell?_of_block hx).trans a3, (World.cell?_of_block hx).trans a4, a5.keepO (fun j hj hl => k j (a6 j hj).1 hl), a6⟩
theorem LogS.of {w w' : World} {S : Nat → Prop} {xb : Nat} {rs : List Rec} (h : LogS w S xb rs) (k : Within w w') : LogS w' S xb rs := h.keep fun j _ hj => k.block j hj
theorem LogS.butS {w w' : World} {S T : Nat → Prop} {xb : Nat} {rs : List Rec} (h : LogS w S xb rs) (k : ButS T w w') (hd : ∀ j, S j → j < w.heap.size → ¬ T j) : LogS w' S xb rs := h.keep fun j hj hl => k.block j hl (hd j hj hl)
theorem LogS.mono {w : World} {S T : Nat → Prop} {xb : Nat} {rs : List Rec} (h : LogS w S xb rs) (k : ∀ j, S j → T j) : LogS w T xb rs := by
  obtain ⟨h0, h1, h2, ps, lv, kv, bv, a1, a2, a3, a4, a5, a6⟩ := h
  exact ⟨k _ h0, h1, h2, ps, lv, kv, bv, a1, a2, a3, a4, a5, fun j hj => ⟨k _ (a6 j hj).1, (a6 j hj).2⟩⟩
theorem Rws.rec_ {w : World} {base : Nat} {ps : List (IRec × Value)} {lv : Value} {ks : List Nat} {kv : Value} {bs : List Nat} {bv : Value} (h : Rws w base ps lv ks kv bs bv) (r : IRec) (u : Value) (hu : OwnB w base u r.2) (hub : Bytes r.2) (hne : Apart u lv) (huk : Apart u kv) (hub2 : Apart u bv) (hl : (ps.length + 1) * 32 ≤ 140737488355328) (hbase : base ≤ w.heap.size) :
    ∃ lv' w', (Builtin.append_ #[52, 52] 52 #[lv, .slice (some ⟨w.heap.size, 0, none⟩) 1 1]).run Tryz.prog (w.alloc (.cells #[.int .i64 r.1, u] 30)) = .ok lv' w' ∧ Rws w' base (ps ++ [(r, u)]) lv' ks kv bs bv ∧ w.grownBy w' lv.ownBlock ∧ (lv'.ownBlock = lv.ownBlock ∨ lv'.ownBlock = some (w.heap.size + 1)) := by
  obtain ⟨lv', w', h1, h2, h3, h4⟩ := run_app_recP w base lv ps r u h.recs hu hub hne hl hbase
  refine ⟨lv', w', h1, ⟨h2, ownsRow_keep h.links (fun j hj => apart_kept h3 h.lk.symm j hj (h.links.lt j hj).2), h.bytes.keep (fun j hj => apart_kept h3 h.lb.symm j hj (h.bytes.lt j hj).2), ?_, ?_, h.kb, fun p hp => ?_⟩, h3, h4⟩
  · exact apart_grown (w := w) h.lk h4 (fun j hj => by have := (h.links.lt j hj).2; omega)
  · exact apart_grown (w := w) h.lb h4 (fun j hj => by have := (h.bytes.lt j hj).2; omega)
  · rcases List.mem_append.1 hp with hp | hp
    · exact h.pk p hp
    · rw [List.mem_singleton] at hp; rw [hp]; exact ⟨huk, hub2⟩
structure XC (w : World) (xb : Nat) (a b c d : Value) : Prop where
  c0 : w.cell? ⟨xb, 0, none⟩ = some a
  c1 : w.cell? ⟨xb, 1, none⟩ = some b
  c2 : w.cell? ⟨xb, 2, none⟩ = some c
  c3 : w.cell? ⟨xb, 3, none⟩ = some d
  firm : ∀ o, w.frozen? ⟨xb, o, none⟩ = false
theorem XC.lt {w : World} {xb : Nat} {a b c d : Value} (h : XC w xb a b c d) : xb < w.heap.size := World.block_lt_of_cell? _ _ h.c0
theorem XC.keep {w w' : World} {xb : Nat} {a b c d : Value} (h : XC w xb a b c d) (k : w'.heap[xb]? = w.heap[xb]?) : XC w' xb a b c d :=
  ⟨(World.cell?_of_block k).trans h.c0, (World.cell?_of_block k).trans h.c1, (World.cell?_of_block k).trans h.c2, (World.cell?_of_block k).trans h.c3, fun o => (World.frozen?_of_block k).trans (h.firm o)⟩
theorem XC.of {w w' : World} {xb : Nat} {a b c d : Value} (h : XC w xb a b c d) (i : Within w w') : XC w' xb a b c d := h.keep (i.block _ h.lt)
theorem XC.grown {w w' : World} {row : Option Nat} {xb : Nat} {a b c d : Value} (h : XC w xb a b c d) (i : w.grownBy w' row) (hne : row ≠ some xb) : XC w' xb a b c d := h.keep (i.block xb h.lt (Ne.symm hne))
theorem XC.set1 {w : World} {xb : Nat} {a b c d : Value} (h : XC w xb a b c d) (u : Value) : XC (w.setCell ⟨xb, 1, none⟩ u) xb a u c d := by
  refine ⟨?_, World.cell?_setCell_same _ _ _ h.c1, ?_, ?_, fun o => by rw [World.frozen?_setCell]; exact h.firm o⟩
  · rw [World.cell?_setCell_other _ _ _ _ (by simp)]; exact h.c0
  · rw [World.cell?_setCell_other _ _ _ _ (by simp)]; exact h.c2
  · rw [World.cell?_setCell_other _ _ _ _ (by simp)]; exact h.c3
theorem XC.set2 {w : World} {xb : Nat} {a b c d : Value} (h : XC w xb a b c d) (u : Value) : XC (w.setCell ⟨xb, 2, none⟩ u) xb a b u d := by
  refine ⟨?_, ?_, World.cell?_setCell_same _ _ _ h.c2, ?_, fun o => by rw [World.frozen?_setCell]; exact h.firm o⟩
  · rw [World.cell?_setCell_other _ _ _ _ (by simp)]; exact h.c0
  · rw [World.cell?_setCell_other _ _ _ _ (by simp)]; exact h.c1
  · rw [World.cell?_setCell_other _ _ _ _ (by simp)]; exact h.c3
theorem XC.set3 {w : World} {xb : Nat} {a b c d : Value} (h : XC w xb a b c d) (u : Value) : XC (w.setCell ⟨xb, 3, none⟩ u) xb a b c u := by
  refine ⟨?_, ?_, ?_, World.cell?_setCell_same _ _ _ h.c3, fun o => by rw [World.frozen?_setCell]; exact h.firm o⟩
  · rw [World.cell?_setCell_other _ _ _ _ (by simp)]; exact h.c0
  · rw [World.cell?_setCell_other _ _ _ _ (by simp)]; exact h.c1
  · rw [World.cell?_setCell_other _ _ _ _ (by simp)]; exact h.c2
theorem Rws.setX {w : World} {base : Nat} {ps : List (IRec × Value)} {lv : Value} {ks : List Nat} {kv : Value} {bs : List Nat} {bv : Value} (h : Rws w base ps lv ks kv bs bv) {p : Addr} (hp : ∀ j, Owned ps lv kv bv j → j ≠ p.block) (u : Value) : Rws (w.setCell p u) base ps lv ks kv bs bv :=
  h.keepO fun j hj _ => Below.heap_setCell _ _ _ _ (hp j hj)
theorem laidV_le : ∀ (l : List Rec) (n last : Nat), (∀ r ∈ l, r.data.length ≤ 1048576) → (laidV l n last).length ≤ l.length * 1048593
  | [], _, _, _ => Nat.zero_le _
  | r :: l, n, last, h => by
    show (layV r n last ++ laidV l (n + 1) (nextV r n last)).length ≤ (l.length + 1) * 1048593
    rw [List.length_append, layV_len]
    have h1 := h r (by simp)
    have h2 := laidV_le l (n + 1) (nextV r n last) (fun q hq => h q (by simp [hq]))
    omega
theorem logV_le {l : List Rec} (h : ∀ r ∈ l, r.data.length ≤ 1048576) (hn : l.length ≤ 1048576) : (logV l).length ≤ 70368744177664 := by
  have h1 := laidV_le l 0 startV h
  unfold logV
  rw [List.length_append, show magicV.length = 8 from rfl]
  omega
theorem apart_new {u v : Value} (N : Nat) (hu : ∀ j, u.ownBlock = some j → N ≤ j) (hv : ∀ j, v.ownBlock = some j → j < N) : Apart u v := by
  cases h : u.ownBlock with
  | none => exact .inl h
  | some j =>
    refine .inr (fun e => ?_)
    rw [h] at e
    have h1 := hu j h
    have h2 := hv j e.symm
    omega
end Go.Proofs.YtpmjlaiafgbjgaaGreatDoor
end

section
namespace Go.Proofs.YtpmjlaiafgbjgaaGreatDoor
open Go.RowKit
theorem last_any (xb : Nat) (rs : List Rec) (hn : rs.length ≤ 1048576) (K : Option Addr) (ck : Nat) (w : World) (h2 : w.cell? ⟨xb, 2, none⟩ = some (.slice K rs.length ck)) (hK : SlAt w K (u32v (linksV rs 0 startV))) : Calls Tryz.prog 58 #[.pointer (some ⟨xb, 0, none⟩)] w fun e w' => e = .returned (.int .u32 (lastV rs 0 startV : Int)) ∧ Within w w' := by
  rcases Nat.eq_zero_or_pos rs.length with h0 | h0
  · have e : rs = [] := List.eq_nil_of_length_eq_zero h0
    subst e
    exact last_none xb K ck w h2
  · obtain ⟨n, hn1⟩ : ∃ n, rs.length = n + 1 := ⟨rs.length - 1, by omega⟩
    have hne : rs ≠ [] := fun e => by rw [e] at h0; cases h0
    have hl := linksV_last rs 0 startV hne
    obtain ⟨ad, rfl, _, hc⟩ := hK (by rw [u32v_len, linksV_len]; exact h0)
    have hx := hc n (.int .u32 (lastV rs 0 startV : Int)) (by
      unfold u32v
      have hlt : n < (linksV rs 0 startV).length := by rw [linksV_len]; omega
      rw [List.getElem?_map, List.getElem?_eq_getElem hlt, ← hl, hn1]
      rw [show n + 1 - 1 = n by omega, List.getD_eq_getElem?_getD, List.getElem?_eq_getElem hlt]; rfl)
    rw [hn1] at h2
    exact last_some xb ad ck n _ (by omega) w h2 hx
set_option maxRecDepth 100000 in
set_option maxHeartbeats 1000000 in
theorem jput_any (S : Nat → Prop) (xb : Nat) (rs : List Rec) (r : Rec) (hok : ∀ q ∈ rs ++ [r], q.Ok pf) (hn : rs.length < 1048576) (D : Option Addr) (cd : Nat) (hcd : r.data.length ≤ cd) (w : World) (hP : LogS w S xb rs) (hr : SlAt w D (u8v r.data)) : Calls Tryz.prog 33 #[.pointer (some ⟨xb, 0, none⟩), .agg #[.int .i64 (r.kind : Int), .slice D r.data.length cd]] w fun e w' => e = .returned (.tuple #[]) ∧ LogS w' (More S w w') xb (rs ++ [r]) ∧ ButS S w w' := by
  have hokr : r.Ok pf := hok r (by simp)
  have hok' : ∀ q ∈ rs, q.Ok pf := fun q hq => hok q (by simp [hq])
  obtain ⟨hr1, hr2, hr4⟩ := hokr.parts
  have hr3 := hokr.bytes
  have hlast := lastV_lt rs 0 startV hok' startV_lt
  have hlog := logV_le (l := rs ++ [r]) (fun q hq => (hok q hq).parts.2.2) (by rw [List.length_append]; simp; omega)
  rw [logV_snoc, List.length_append] at hlog
  have hxb := hP.lt
  obtain ⟨hS, hmade, hfirm, ps, lv, kv, bv, hps, p1, p2, p3, hRW, hown⟩ := hP
  have hRO : RecsO w 0 lv (rs.map Rec.i) := ⟨ps, hps, hRW.recs⟩
  obtain ⟨Al, cl, rfl, hcl, _, _, _⟩ := hRO.at
  obtain ⟨Ak, ck, rfl, hck, hks, _⟩ := owns_form hRW.links
  obtain ⟨Ab, cb, rfl, hcb, hbs, _⟩ := hRW.bytes.form
  rw [List.length_map] at hcl p1 hRW hown
  rw [linksV_len] at hck p2 hRW hown
  have HX := Lib.hid (XC.mk hmade p1 p2 p3 hfirm)
  have hpl : ps.length = rs.length := by have := congrArg List.length hps; rwa [List.length_map, List.length_map] at this
  obtain ⟨W0, hW0⟩ : ∃ W0, W0 = w.alloc (.cells #[.int .i64 (r.kind : Int), .slice D r.data.length cd] 30) := ⟨_, rfl⟩
  have hI0 : Within w W0 := by rw [hW0]; exact (Within.refl w).alloc _
  have z0 : W0.cell? ⟨w.heap.size, 0, none⟩ = some (.int .i64 (r.kind : Int)) := by rw [hW0]; simp
  have z1 : W0.cell? ⟨w.heap.size, 1, none⟩ = some (.slice D r.data.length cd) := by rw [hW0]; simp
  have zs : w.heap.size < W0.heap.size := by rw [hW0]; simp
  have q1 := (hI0.cells _ _ hxb).trans p1
  have q2 := (hI0.cells _ _ hxb).trans p2
  have hxb0 := Nat.lt_of_lt_of_le hxb hI0.size
  have LL : Hid (∀ W, Within W0 W → Calls Tryz.prog 58 #[.pointer (some ⟨xb, 0, none⟩)] W fun e w' => e = .returned (.int .u32 (lastV rs 0 startV : Int)) ∧ Within W w') := Lib.hid (fun W h => last_any xb rs (by omega) Ak ck W ((h.cells _ _ hxb0).trans q2) (hks.of (hI0.trans h)))
  have LY : Hid (∀ W, Within W0 W → Calls Tryz.prog 57 #[.agg #[.int .i64 (r.kind : Int), .slice D r.data.length cd], .int .i64 (rs.length : Int), .int .u32 (lastV rs 0 startV : Int)] W fun e w' => ∃ v, e = .returned (.tuple #[v, .int .u32 (nextV r rs.length (lastV rs 0 startV) : Int)]) ∧ OwnB w' W.heap.size v (layV r rs.length (lastV rs 0 startV)) ∧ Within W w') := Lib.hid (fun W h => lay_any r rs.length (lastV rs 0 startV) D cd (by omega) (by omega) hlast hr4 hr3 W (hr.of (hI0.trans h)))
  have CL : Hid (∀ W, Within W0 W → Calls Tryz.prog 36 #[.slice D r.data.length cd] W fun e w' => ∃ v, e = .returned v ∧ OwnB w' W.heap.size v r.data ∧ Within W w') := Lib.hid (fun W h => clone_any D cd r.data (by omega) W (hr.of (hI0.trans h)))
  obtain ⟨n, hnn⟩ : ∃ n, rs.length = n := ⟨_, rfl⟩
  obtain ⟨la, hla⟩ : ∃ x, lastV rs 0 startV = x := ⟨_, rfl⟩
  obtain ⟨nx, hnx⟩ : ∃ x, nextV r rs.length (lastV rs 0 startV) = x := ⟨_, rfl⟩
  obtain ⟨nb, hnb⟩ : ∃ x, (logV rs).length = x := ⟨_, rfl⟩
  obtain ⟨nd, hnd⟩ : ∃ x, r.data.length = x := ⟨_, rfl⟩
  obtain ⟨k, hkk⟩ : ∃ x, r.kind = x := ⟨_, rfl⟩
  obtain ⟨LA, hLA⟩ : ∃ x, layV r rs.length (lastV rs 0 startV) = x := ⟨_, rfl⟩
  obtain ⟨nl, hnl⟩ : ∃ x, LA.length = x := ⟨_, rfl⟩
  rw [hnx, hLA] at LY
  rw [hLA, hnb, hnl] at hlog
  rw [hnn, hla, hnd, hkk] at LY
  rw [hla] at LL
  rw [hnd] at CL
  rw [hkk] at z0
  rw [hnd, hkk] at hW0
  rw [hnd] at z1 hcd
  rw [hnn] at p1 q1 q2 hn hcl hck hRW hown HX hpl
  rw [hnb] at hRW hown HX hcb
  rw [hnd] at hr4
  rw [hnn] at hLA hnx
  rw [hla] at hLA hnx hlast
  rw [hnn] at p2
  rw [hnb] at p3
  have HZ0 := Lib.hid z0; have HZ1 := Lib.hid z1; have HZS := Lib.hid zs
  have HLP : Hid (0 < LA.length) := Lib.hid (by rw [← hLA, layV_len]; omega)
  have HPS := Lib.hid hps; have HRW := Lib.hid hRW; have HOW := Lib.hid hown; have HSX := Lib.hid hS; have HI0 := Lib.hid hI0; have HND := Lib.hid hnd; have HKK := Lib.hid hkk; have HLA := Lib.hid hLA; have HNX := Lib.hid hnx; have HNL := Lib.hid hnl; have HNN := Lib.hid hnn; have HLL := Lib.hid hla; have HR3 := Lib.hid hr3; have HNB := Lib.hid hnb
  clear hps hRW hown hS hI0 hnd hkk hLA hnx hnl hnn hla hr3 hnb hok hok' hokr hr hmade hfirm hRO hks hbs p2 p3 q2
  rw [HND.out, HKK.out]
  go_enter Tryz.func33, Tryz.ntmps33
  go_wp2_with fail
  rw [← hW0]
  clear hW0
  refine wp_region_schG (fun W => W.cell? ⟨xb, 1, none⟩ = some (.slice Al n cl) ∧ xb < W.heap.size ∧ W.cell? ⟨w.heap.size, 0, none⟩ = some (.int .i64 (k : Int)) ∧ W.cell? ⟨w.heap.size, 1, none⟩ = some (.slice D nd cd) ∧ w.heap.size < W.heap.size ∧ Within W0 W) 13 (.firm 0 (.firm 1 (.firm 2 (.firm 3 (.firm 4 (.firm 5 (.firm 6 (.one 7 (.one 8 (.firm 9 (.firm 10 (.firm 11 (.firm 12 (.one 13 .nil)))))))))))))) (by kernel_rfl) (by kernel_rfl) ⟨q1, hxb0, z0, z1, zs, Within.refl W0⟩ ?_
  rintro w0 ⟨p1, hxb, z0, z1, zs, hww⟩
  try simp only [Act.put, List.setIfInBounds_toArray, List.set_cons_zero, List.set_cons_succ]
  iterate 7
    apply sch_firm rfl rfl (by repeat (first | with_reducible exact Within.refl _ | with_reducible assumption | with_reducible refine Within.alloc ?_ _ | with_reducible refine Within.drew ?_ | with_reducible refine Within.drewN ?_ _ | with_reducible refine Within.setCell ?_ (by first | (simp; done) | (simp; omega)) _ | with_reducible refine Within.trans ?_ (by assumption)))
    · intro wq hq
      have hcq := hq.cells
      clear hq
      go_simp
      rfl
    try simp only [Act.put, List.setIfInBounds_toArray, List.set_cons_zero, List.set_cons_succ]
  refine sch_one rfl rfl (fun K hK => ?_)
  go_simp
  refine (LL.out _ (by exact hww.trans (by first | assumption | repeat (first | with_reducible exact Within.refl _ | with_reducible assumption | with_reducible refine Within.alloc ?_ _ | with_reducible refine Within.drew ?_ | with_reducible refine Within.drewN ?_ _ | with_reducible refine Within.setCell ?_ (by first | (simp; done) | (simp; omega)) _ | with_reducible refine Within.trans ?_ (by assumption))))).mono ?_; rintro e1 w1 ⟨rfl, h1⟩
  refine hK _ _ (fun _ => (by repeat (first | with_reducible exact Within.refl _ | with_reducible assumption | with_reducible refine Within.alloc ?_ _ | with_reducible refine Within.drew ?_ | with_reducible refine Within.drewN ?_ _ | with_reducible refine Within.setCell ?_ (by first | (simp; done) | (simp; omega)) _ | with_reducible refine Within.trans ?_ (by assumption)))) ?_
  clear hK K
  try simp only [Act.put, List.setIfInBounds_toArray, List.set_cons_zero, List.set_cons_succ]
  refine sch_one rfl rfl (fun K hK => ?_)
  go_simp
  refine (LY.out _ (by exact hww.trans (by repeat (first | with_reducible exact Within.refl _ | with_reducible assumption | with_reducible refine Within.alloc ?_ _ | with_reducible refine Within.drew ?_ | with_reducible refine Within.drewN ?_ _ | with_reducible refine Within.setCell ?_ (by first | (simp; done) | (simp; omega)) _ | with_reducible refine Within.trans ?_ (by assumption))))).mono ?_; rintro e2 w2 ⟨vl, rfl, hO2, h2⟩
  obtain ⟨Av, cv, rfl, hcv, hsv, _⟩ := hO2.form
  rw [HNL.out] at hcv
  have HO2 := Lib.hid hO2; have HSV := Lib.hid hsv; clear hO2 hsv
  rw [HNL.out] at HO2 ⊢
  refine hK _ _ (fun _ => (by repeat (first | with_reducible exact Within.refl _ | with_reducible assumption | with_reducible refine Within.alloc ?_ _ | with_reducible refine Within.drew ?_ | with_reducible refine Within.drewN ?_ _ | with_reducible refine Within.setCell ?_ (by first | (simp; done) | (simp; omega)) _ | with_reducible refine Within.trans ?_ (by assumption)))) ?_
  clear hK K
  try simp only [Act.put, List.setIfInBounds_toArray, List.set_cons_zero, List.set_cons_succ]
  iterate 4
    apply sch_firm rfl rfl (by repeat (first | with_reducible exact Within.refl _ | with_reducible assumption | with_reducible refine Within.alloc ?_ _ | with_reducible refine Within.drew ?_ | with_reducible refine Within.drewN ?_ _ | with_reducible refine Within.setCell ?_ (by first | (simp; done) | (simp; omega)) _ | with_reducible refine Within.trans ?_ (by assumption)))
    · intro wq hq
      have hcq := hq.cells
      clear hq
      go_simp
      rfl
    try simp only [Act.put, List.setIfInBounds_toArray, List.set_cons_zero, List.set_cons_succ]
  refine sch_one rfl rfl (fun K hK => ?_)
  go_simp
  refine hK _ _ (fun h => absurd h (by decide)) ?_
  clear hK K
  try simp only [Act.put, List.setIfInBounds_toArray, List.set_cons_zero, List.set_cons_succ]
  refine sch_nil ?_
  have hX2 : Within W0 w2 := Within.trans (Within.trans hww.drew h1) h2
  have hW1 : Within W0 w1 := Within.trans hww.drew h1
  have HW1 := Lib.hid hW1; clear hW1
  have p1' := (hX2.cells _ _ hxb0).trans q1
  have p1' := (hX2.cells _ _ hxb0).trans q1
  have hT : ∀ j, (Value.slice Al n cl).ownBlock = some j → j < w.heap.size ∧ j ≠ xb := fun j hj => ⟨HRW.out.owned_lt (.inl hj), (HOW.out j (.inl hj)).2⟩
  have nT1 : ¬ ((Value.slice Al n cl).ownBlock = some xb) := fun h => (hT _ h).2 rfl
  have nT2 : ¬ ((Value.slice Al n cl).ownBlock = some w.heap.size) := fun h => by have := (hT _ h).1; omega
  have z0' := (hX2.cells _ 0 HZS.out).trans HZ0.out
  have z1' := (hX2.cells _ 1 HZS.out).trans HZ1.out
  have hxb2 := Nat.lt_of_lt_of_le hxb0 hX2.size
  have zs2 := Nat.lt_of_lt_of_le HZS.out hX2.size
  have HX2 := Lib.hid hX2; have HT1 := Lib.hid nT1; have HT2 := Lib.hid nT2; have HTT := Lib.hid hT; clear hX2 nT1 nT2 hT h1 h2 hww p1 hxb z0 z1 zs q1 LY LL
  go_wp2_with fail
  refine wp_region_schT (fun j => (Value.slice Al n cl).ownBlock = some j) (fun W => W.cell? ⟨xb, 1, none⟩ = some (.slice Al n cl) ∧ xb < W.heap.size ∧ W.cell? ⟨w.heap.size, 0, none⟩ = some (.int .i64 (k : Int)) ∧ W.cell? ⟨w.heap.size, 1, none⟩ = some (.slice D nd cd) ∧ w.heap.size < W.heap.size ∧ W = w2) 15 (.firm 0 (.firm 1 (.firm 2 (.firm 3 (.firm 4 (.firm 5 (.firm 6 (.firm 7 (.firm 8 (.one 9 (.firm 10 (.one 11 (.one 12 (.firm 13 (.firm 14 (.one 15 .nil)))))))))))))))) (by kernel_rfl) (by kernel_rfl) ⟨p1', hxb2, z0', z1', zs2, rfl⟩ ?_
  rintro w0 ⟨p1, hxb, z0, z1, zs, rfl⟩
  try simp only [Act.put, List.setIfInBounds_toArray, List.set_cons_zero, List.set_cons_succ]
  iterate 9
    apply sch_firm rfl rfl (by repeat (first | with_reducible exact ButS.refl _ _ | with_reducible assumption | with_reducible refine ButS.drew ?_ | with_reducible refine ButS.alloc ?_ _ | with_reducible refine ButS.within ?_ (by assumption)))
    · intro wq hq
      have g0 := (hq.cells xb 1 hxb HT1.out).trans p1
      have g1 := (hq.cells _ 0 zs HT2.out).trans z0
      have g2 := (hq.cells _ 1 zs HT2.out).trans z1
      have g3 := Nat.lt_of_lt_of_le hxb hq.size
      have g4 := Nat.lt_of_lt_of_le zs hq.size
      clear hq
      go_simp
      rfl
    try simp only [Act.put, List.setIfInBounds_toArray, List.set_cons_zero, List.set_cons_succ]
  refine sch_one rfl rfl (fun K hK => ?_)
  go_simp
  refine (CL.out _ (by exact HX2.out.drew)).mono ?_; rintro e3 w3 ⟨v3, rfl, hO3, h3⟩
  obtain ⟨A3, c3, rfl, hc3, _, _⟩ := hO3.form
  rw [HND.out] at hO3 hc3 ⊢
  have HO3 := Lib.hid hO3; have H3 := Lib.hid h3; clear hO3
  refine hK _ _ (fun _ => (by repeat (first | with_reducible exact ButS.refl _ _ | with_reducible assumption | with_reducible refine ButS.drew ?_ | with_reducible refine ButS.alloc ?_ _ | with_reducible refine ButS.within ?_ (by assumption)))) ?_
  clear hK K
  try simp only [Act.put, List.setIfInBounds_toArray, List.set_cons_zero, List.set_cons_succ]
  apply sch_firm rfl rfl (by repeat (first | with_reducible exact ButS.refl _ _ | with_reducible assumption | with_reducible refine ButS.drew ?_ | with_reducible refine ButS.alloc ?_ _ | with_reducible refine ButS.within ?_ (by assumption)))
  · intro wq hq
    have g0 := (hq.cells xb 1 hxb HT1.out).trans p1
    have g1 := (hq.cells _ 0 zs HT2.out).trans z0
    have g2 := (hq.cells _ 1 zs HT2.out).trans z1
    have g3 := Nat.lt_of_lt_of_le hxb hq.size
    have g4 := Nat.lt_of_lt_of_le zs hq.size
    clear hq
    go_simp
    rfl
  try simp only [Act.put, List.setIfInBounds_toArray, List.set_cons_zero, List.set_cons_succ]
  refine sch_one rfl rfl (fun K hK => ?_)
  go_simp
  refine hK _ _ (fun _ => (by repeat (first | with_reducible exact ButS.refl _ _ | with_reducible assumption | with_reducible refine ButS.drew ?_ | with_reducible refine ButS.alloc ?_ _ | with_reducible refine ButS.within ?_ (by assumption)))) ?_
  clear hK K
  try simp only [Act.put, List.setIfInBounds_toArray, List.set_cons_zero, List.set_cons_succ]
  refine sch_one rfl rfl (fun K hK => ?_)
  have hw3 : Within w w3 := HI0.out.trans (HX2.out.drew.trans H3.out)
  have hnew : ∀ j, (Value.slice A3 nd c3).ownBlock = some j → w.heap.size ≤ j := fun j hj => by have h1 := (HO3.out.lt j hj).1; have h2 := HX2.out.size; have h3 := HI0.out.size; simp at h1; omega
  have hap : ∀ v, (∀ j, v.ownBlock = some j → j < w.heap.size) → Apart (.slice A3 nd c3) v := fun v hv => apart_new w.heap.size hnew hv
  obtain ⟨lv4, w4, hrun4, hR4, hg4, hb4⟩ := Rws.rec_ (w := w3) (HRW.out.of hw3) ((k : Int), r.data) (.slice A3 nd c3) (HO3.out.less (Nat.zero_le _)) HR3.out (hap _ fun j hj => HRW.out.owned_lt (.inl hj)) (hap _ fun j hj => HRW.out.owned_lt (.inr (.inl hj))) (hap _ fun j hj => HRW.out.owned_lt (.inr (.inr (.inl hj)))) (by rw [hpl]; omega) (Nat.zero_le _)
  have hS4 : ButS (fun j => j = xb ∨ Owned ps (.slice Al n cl) (.slice Ak n ck) (.slice Ab nb cb) j) w0 w4 := (ButS.in_ ((Within.refl w0).drew.trans H3.out)).grown hg4 (fun j hj => .inl (.inr (.inl hj)))
  have hS4' : ButS (fun j => (Value.slice Al n cl).ownBlock = some j) w0 w4 := (ButS.in_ ((Within.refl w0).drew.trans H3.out)).grown hg4 (fun j hj => .inl hj)
  have hX4 : XC w4 xb (.int .i64 1) (.slice Al n cl) (.slice Ak n ck) (.slice Ab nb cb) := (HX.out.of hw3).grown hg4 (fun e => HT1.out e)
  have hO4 : ∀ j, Owned (ps ++ [(((k : Int), r.data), Value.slice A3 nd c3)]) lv4 (.slice Ak n ck) (.slice Ab nb cb) j → (Owned ps (.slice Al n cl) (.slice Ak n ck) (.slice Ab nb cb) j ∨ w.heap.size ≤ j) ∧ j ≠ xb := fun j hj => by
    have hxw : xb < w.heap.size := HX.out.lt
    have old : Owned ps (.slice Al n cl) (.slice Ak n ck) (.slice Ab nb cb) j → (Owned ps (.slice Al n cl) (.slice Ak n ck) (.slice Ab nb cb) j ∨ w.heap.size ≤ j) ∧ j ≠ xb := fun h => ⟨.inl h, (HOW.out j h).2⟩
    rcases hj with hj | hj | hj | ⟨p, hp, hj⟩
    · rcases hb4 with e | e
      · exact old (.inl (e ▸ hj))
      · rw [hj] at e; have e := Option.some.inj e; have h1 := hw3.size; exact ⟨.inr (by omega), by omega⟩
    · exact old (.inr (.inl hj))
    · exact old (.inr (.inr (.inl hj)))
    · rcases List.mem_append.1 hp with hp | hp
      · exact old (.inr (.inr (.inr ⟨p, hp, hj⟩)))
      · rw [List.mem_singleton] at hp; rw [hp] at hj; have h1 := hnew j hj; exact ⟨.inr h1, by omega⟩
  obtain ⟨A4, c4, rfl, hx9, hy9, hz9, hu9⟩ := RecsO.at (rs := (ps ++ [(((k : Int), r.data), Value.slice A3 nd c3)]).map Prod.fst) ⟨_, rfl, hR4.recs⟩
  clear hx9 hy9 hz9 hu9
  obtain ⟨n4, hn4⟩ : ∃ m, ((ps ++ [(((k : Int), r.data), Value.slice A3 nd c3)]).map Prod.fst).length = m := ⟨_, rfl⟩
  rw [hn4] at hrun4 hR4 hO4
  clear hn4 hb4
  have HR4 := Lib.hid hR4; have HX4 := Lib.hid hX4; have HO4 := Lib.hid hO4; have HS4 := Lib.hid hS4; have RUN4 := Lib.hid hrun4; clear hR4 hX4 hO4 hS4 hrun4 hg4 hap hnew hw3
  refine op_append_run (.tmp 22) (.tmp 29) 52 rfl _ _ rfl rfl RUN4.out ?_
  refine hK _ _ (fun _ => (by repeat (first | with_reducible exact ButS.refl _ _ | with_reducible assumption | with_reducible refine ButS.drew ?_ | with_reducible refine ButS.alloc ?_ _ | with_reducible refine ButS.within ?_ (by assumption)))) ?_
  clear hK K
  try simp only [Act.put, List.setIfInBounds_toArray, List.set_cons_zero, List.set_cons_succ]
  iterate 2
    apply sch_firm rfl rfl (by repeat (first | with_reducible exact ButS.refl _ _ | with_reducible assumption | with_reducible refine ButS.drew ?_ | with_reducible refine ButS.alloc ?_ _ | with_reducible refine ButS.within ?_ (by assumption)))
    · intro wq hq
      have g0 := (hq.cells xb 1 hxb HT1.out).trans p1
      have g1 := (hq.cells _ 0 zs HT2.out).trans z0
      have g2 := (hq.cells _ 1 zs HT2.out).trans z1
      have g3 := Nat.lt_of_lt_of_le hxb hq.size
      have g4 := Nat.lt_of_lt_of_le zs hq.size
      clear hq
      go_simp
      rfl
    try simp only [Act.put, List.setIfInBounds_toArray, List.set_cons_zero, List.set_cons_succ]
  refine sch_one rfl rfl (fun K hK => ?_)
  obtain ⟨r0, r1, r2, r3, rff⟩ := HX4.out
  have hrb4 := HX4.out.lt
  go_simp
  refine hK _ _ (fun h => absurd h (by decide)) ?_
  clear hK K
  try simp only [Act.put, List.setIfInBounds_toArray, List.set_cons_zero, List.set_cons_succ]
  refine sch_nil ?_
  have hps' : (ps ++ [(((k : Int), r.data), Value.slice A3 nd c3)]).map Prod.fst = (rs ++ [r]).map Rec.i := by rw [List.map_append, HPS.out, List.map_append]; show _ ++ [((k : Int), r.data)] = _ ++ [((r.kind : Int), r.data)]; rw [HKK.out]
  have HPS2 := Lib.hid hps'; clear hps'
  obtain ⟨X1, hX1⟩ : ∃ X, X = w4.setCell ⟨xb, 1, none⟩ (.slice A4 n4 c4) := ⟨_, rfl⟩
  have hXa : XC X1 xb (.int .i64 1) (.slice A4 n4 c4) (.slice Ak n ck) (.slice Ab nb cb) := by rw [hX1]; exact HX4.out.set1 _
  have hRa : Rws X1 0 (ps ++ [(((k : Int), r.data), Value.slice A3 nd c3)]) (.slice A4 n4 c4) (linksV rs 0 startV) (.slice Ak n ck) (logV rs) (.slice Ab nb cb) := by rw [hX1]; exact HR4.out.setX (fun j hj => (HO4.out j hj).2) _
  have hS1 : ButS (fun j => j = xb ∨ Owned ps (.slice Al n cl) (.slice Ak n ck) (.slice Ab nb cb) j) w0 X1 := by rw [hX1]; exact HS4.out.set (.inl (.inl rfl)) _
  obtain ⟨kv5, w5, hrun5, hR5, hg5, hb5⟩ := Rws.link (w := X1.alloc (.cells #[.int .u32 (nx : Int)] 48)) (hRa.of ((Within.refl _).alloc _)) nx (some ⟨X1.heap.size, 0, none⟩) 1 (SlAt.one X1 _ _) (by rw [linksV_len, HNN.out]; omega) (Nat.zero_le _)
  have hS5 : ButS (fun j => j = xb ∨ Owned ps (.slice Al n cl) (.slice Ak n ck) (.slice Ab nb cb) j) w0 w5 := (hS1.alloc _).grown hg5 (fun j hj => .inl (.inr (.inr (.inl hj))))
  have hX5 : XC w5 xb (.int .i64 1) (.slice A4 n4 c4) (.slice Ak n ck) (.slice Ab nb cb) := (hXa.of ((Within.refl _).alloc _)).grown hg5 (fun e => (HO4.out xb (.inr (.inl e))).2 rfl)
  have hO5 : ∀ j, Owned (ps ++ [(((k : Int), r.data), Value.slice A3 nd c3)]) (.slice A4 n4 c4) kv5 (.slice Ab nb cb) j → (Owned ps (.slice Al n cl) (.slice Ak n ck) (.slice Ab nb cb) j ∨ w.heap.size ≤ j) ∧ j ≠ xb := fun j hj => by
    rcases hj with hj | hj | hj | hj
    · exact HO4.out j (.inl hj)
    · rcases hb5 with e | e
      · exact HO4.out j (.inr (.inl (e ▸ hj)))
      · rw [hj] at e; have e := Option.some.inj e; have h1 := hS1.size; have h2 := HX2.out.size; have h3 := HI0.out.size; exact ⟨.inr (by have e := e; first | omega | (simp at e; omega)), by have e := e; first | omega | (simp at e; omega)⟩
    · exact HO4.out j (.inr (.inr (.inl hj)))
    · exact HO4.out j (.inr (.inr (.inr hj)))
  obtain ⟨A5, c5, rfl, _, _, _⟩ := owns_form hR5.links
  obtain ⟨n5, hn5⟩ : ∃ m, (linksV rs 0 startV ++ [nx]).length = m := ⟨_, rfl⟩
  rw [hn5] at hrun5 hR5 hO5
  rw [hn5] at hb5
  clear hn5 hb5
  have hX6 := hX5.set2 (.slice A5 n5 c5)
  have hR6 := hR5.setX (p := ⟨xb, 2, none⟩) (fun j hj => (hO5 j hj).2) (.slice A5 n5 c5)
  have hS6 := hS5.set (p := ⟨xb, 2, none⟩) (.inl (.inl rfl)) (.slice A5 n5 c5)
  obtain ⟨X2, hX2⟩ : ∃ X, X = w5.setCell ⟨xb, 2, none⟩ (.slice A5 n5 c5) := ⟨_, rfl⟩
  rw [← hX2] at hX6 hR6 hS6
  have hsv6 : SlAt X2 Av (u8v LA) := HSV.out.butS hS6 (fun ad e => by
    have h1 := HO2.out.lt ad.block (by rw [e]; rfl)
    have h2 := HW1.out.size; have h3 := HI0.out.size
    rintro (h | h)
    · omega
    · have := HRW.out.owned_lt h; omega)
  obtain ⟨bv7, w7, hrun7, hR7, hg7, hb7⟩ := Rws.more (w := X2) hR6 LA Av cv hsv6 HLP.out (by rw [HNB.out, HNL.out]; omega) (Nat.zero_le _)
  rw [HNL.out] at hrun7
  have hS7 := hS6.grown hg7 (fun j hj => .inl (.inr (.inr (.inr (.inl hj)))))
  have hX7 : XC w7 xb (.int .i64 1) (.slice A4 n4 c4) (.slice A5 n5 c5) (.slice Ab nb cb) := hX6.grown hg7 (fun e => (HO4.out xb (.inr (.inr (.inl e)))).2 rfl)
  have hO7 : ∀ j, Owned (ps ++ [(((k : Int), r.data), Value.slice A3 nd c3)]) (.slice A4 n4 c4) (.slice A5 n5 c5) bv7 j → (Owned ps (.slice Al n cl) (.slice Ak n ck) (.slice Ab nb cb) j ∨ w.heap.size ≤ j) ∧ j ≠ xb := fun j hj => by
    rcases hj with hj | hj | hj | hj
    · exact hO5 j (.inl hj)
    · exact hO5 j (.inr (.inl hj))
    · rcases hb7 with e | e
      · exact hO5 j (.inr (.inr (.inl (e ▸ hj))))
      · rw [hj] at e; have e := Option.some.inj e; have h1 := hS6.size; have h2 := HX2.out.size; have h3 := HI0.out.size; exact ⟨.inr (by have e := e; first | omega | (simp at e; omega)), by have e := e; first | omega | (simp at e; omega)⟩
    · exact hO5 j (.inr (.inr (.inr hj)))
  obtain ⟨A7, c7, rfl, _, _, _⟩ := hR7.bytes.form
  obtain ⟨n7, hn7⟩ : ∃ m, (logV rs ++ LA).length = m := ⟨_, rfl⟩
  rw [hn7] at hrun7 hR7 hO7
  clear hn7 hb7
  have hX8 := hX7.set3 (.slice A7 n7 c7)
  have hR8 := hR7.setX (p := ⟨xb, 3, none⟩) (fun j hj => (hO7 j hj).2) (.slice A7 n7 c7)
  have hS8 := hS7.set (p := ⟨xb, 3, none⟩) (.inl (.inl rfl)) (.slice A7 n7 c7)
  obtain ⟨r0, r1, r2, r3, rff⟩ := hXa
  have rlt := World.block_lt_of_cell? _ _ r0
  obtain ⟨s0, s1, s2, s3, sff⟩ := hX5
  have slt := World.block_lt_of_cell? _ _ s0
  have hX6' := hX6
  obtain ⟨t0, t1, t2, t3, tff⟩ := hX6'
  have tlt := World.block_lt_of_cell? _ _ t0
  obtain ⟨u0, u1, u2, u3, uff⟩ := hX7
  have ult := World.block_lt_of_cell? _ _ u0
  rw [hX2] at hrun7
  have RUN5 := Lib.hid hrun5; have RUN7 := Lib.hid hrun7; have HX8 := Lib.hid hX8; have HR8 := Lib.hid hR8; have HS8 := Lib.hid hS8; have HO7 := Lib.hid hO7; have HX2E := Lib.hid hX2
  rw [← hX1]
  clear hrun5 hrun7 hX8 hR8 hS8 hO7 hX2 hX1 hR7 hR6 hR5 hRa hS1 hS5 hS6 hS7 hg5 hg7 hO5 hX6 hsv6
  go_wp2_with (first | (at_builtin; refine wpList_append_run rfl (.tmp 37) (.tmp 39) 73 rfl _ _ rfl rfl RUN5.out ?_) | (at_builtin; refine wpList_append_run rfl (.tmp 47) (.tmp 48) 28 rfl _ _ rfl rfl RUN7.out ?_))
  first | go_end0 | refine bodyPost_ret (results_none rfl _ _ _) rfl ?_
  have hSw : ButS (fun j => j = xb ∨ Owned ps (.slice Al n cl) (.slice Ak n ck) (.slice Ab nb cb) j) w (w7.setCell ⟨xb, 3, none⟩ (.slice A7 n7 c7)) := (ButS.in_ (HI0.out.trans HX2.out)).trans HS8.out (fun _ _ h => h)
  refine ⟨rfl, ⟨.inl HSX.out, HX8.out.c0, HX8.out.firm, (ps ++ [(((k : Int), r.data), Value.slice A3 nd c3)]), _, _, _, HPS2.out, HX8.out.c1, HX8.out.c2, HX8.out.c3, ?_, fun j hj => ⟨?_, (HO7.out j hj).2⟩⟩, hSw.mono fun j hj h => ?_⟩
  · rw [linksV_snoc, logV_snoc, Nat.zero_add, HNN.out, HLL.out, HLA.out, HNX.out]; exact HR8.out
  · rcases (HO7.out j hj).1 with h | h
    · exact .inl (HOW.out j h).1
    · exact .inr ⟨h, HR8.out.owned_lt hj⟩
  · rcases h with h | h
    · rw [h]; exact HSX.out
    · exact (HOW.out j h).1
end Go.Proofs.YtpmjlaiafgbjgaaGreatDoor
end

section
namespace Go.Proofs.YtpmjlaiafgbjgaaGreatDoor
open Go.RowKit
theorem LogS.new (w w' : World) (g xb : Nat) (hg : w'.heap[g]? = some (.cells (u8v magicV).toArray 5 (8, 9))) (hx : w'.heap[xb]? = some (.cells #[.int .i64 1, .slice none 0 0, .slice none 0 0, .slice (some ⟨g, 0, none⟩) 8 8] 75)) (S : Nat → Prop) (h1 : S g) (h2 : S xb) (hne : g ≠ xb) : LogS w' S xb [] := by
  refine ⟨h2, by simp [World.cell?, hx], fun o => by simp [World.frozen?, hx], [], .slice none 0 0, .slice none 0 0, .slice (some ⟨g, 0, none⟩) 8 8, rfl, by simp [World.cell?, hx], by simp [World.cell?, hx], by simp [World.cell?, hx], ⟨⟨World.ownsRow_nil _ _ _ _, fun p hp => by cases hp⟩, World.ownsRow_nil _ _ _ _, .inr ⟨g, rfl, Nat.zero_le _, hg, by decide⟩, .inl rfl, .inl rfl, .inl rfl, fun p hp => by cases hp⟩, fun j hj => ?_⟩
  rcases hj with hj | hj | hj | ⟨p, hp, _⟩
  · cases hj
  · cases hj
  · obtain rfl : g = j := Option.some.inj hj
    exact ⟨h1, hne⟩
  · cases hp
set_option maxRecDepth 100000 in
set_option maxHeartbeats 1000000 in
theorem New_log (w : World) : Calls Tryz.prog 5 #[] w fun e w' => ∃ xb, e = .returned (.pointer (some ⟨xb, 0, none⟩)) ∧ LogS w' (fun j => w.heap.size ≤ j ∧ j < w'.heap.size) xb [] ∧ Within w w' := by
  have kc := fun (w : World) (C : Array Value) (n c : Nat) => Lib.run_convert_bytes_const (P := Tryz.prog) w 28 5 C n c (by kernel_rfl) (by kernel_rfl)
  go_enter Tryz.func5, Tryz.ntmps5
  go_wp2
  go_ret
  refine ⟨_, rfl, LogS.new w _ w.heap.size _ ?_ ?_ _ ⟨Nat.le_refl _, ?_⟩ ⟨?_, ?_⟩ ?_, (by repeat (first | with_reducible exact Within.refl _ | with_reducible assumption | with_reducible refine Within.alloc ?_ _ | with_reducible refine Within.drew ?_ | with_reducible refine Within.drewN ?_ _ | with_reducible refine Within.setCell ?_ (by first | (simp; done) | (simp; omega)) _ | with_reducible refine Within.trans ?_ (by assumption)))⟩
  · exact (heap_alloc_old _ _ (by simp)).trans (heap_alloc_new w _)
  · rw [show w.heap.size + 1 = (w.alloc (.cells (u8v magicV).toArray 5 (8, 9))).heap.size by simp]; exact heap_alloc_new (w.alloc (.cells (u8v magicV).toArray 5 (8, 9))) _
  all_goals first | rfl | (simp; done) | (simp; omega) | (simp [World.alloc]; done) | (trace_state; fail)
set_option maxRecDepth 100000 in
set_option maxHeartbeats 1000000 in
theorem is_true (xb : Nat) (w : World) (h0 : w.cell? ⟨xb, 0, none⟩ = some (.int .i64 1)) : Calls Tryz.prog 31 #[.pointer (some ⟨xb, 0, none⟩)] w fun e w' => e = .returned (.bool true) ∧ w' = w := by
  go_enter Tryz.func31, Tryz.ntmps31
  go_wp2
  go_ret
  exact ⟨rfl, rfl⟩
theorem LogS.list {w : World} {S : Nat → Prop} {xb : Nat} {rs : List Rec} (h : LogS w S xb rs) : ∃ Al cl, w.cell? ⟨xb, 1, none⟩ = some (.slice Al rs.length cl) ∧ rs.length ≤ cl ∧ RecAt w (fun _ => True) Al (rs.map Rec.i) := by
  obtain ⟨hS, hmade, hfirm, ps, lv, kv, bv, hps, p1, p2, p3, hRW, hown⟩ := h
  obtain ⟨Al, cl, rfl, hcl, _, _, h7⟩ := RecsO.at (rs := rs.map Rec.i) ⟨ps, hps, hRW.recs⟩
  rw [List.length_map] at hcl p1
  exact ⟨Al, cl, p1, hcl, h7.weak fun _ _ => trivial⟩
theorem LogS.bytes {w : World} {S : Nat → Prop} {xb : Nat} {rs : List Rec} (h : LogS w S xb rs) : ∃ Ab cb, w.cell? ⟨xb, 3, none⟩ = some (.slice Ab (logV rs).length cb) ∧ (logV rs).length ≤ cb ∧ SlAt w Ab (u8v (logV rs)) := by
  obtain ⟨hS, hmade, hfirm, ps, lv, kv, bv, hps, p1, p2, p3, hRW, hown⟩ := h
  obtain ⟨Ab, cb, rfl, hcb, hs, _⟩ := hRW.bytes.form
  exact ⟨Ab, cb, p3, hcb, hs⟩
set_option maxRecDepth 100000 in
set_option maxHeartbeats 1000000 in
theorem Len_log (S : Nat → Prop) (xb : Nat) (rs : List Rec) (w : World) (hP : LogS w S xb rs) : Calls Tryz.prog 40 #[.pointer (some ⟨xb, 0, none⟩)] w fun e w' => e = .returned (.int .i64 (rs.length : Int)) ∧ w' = w := by
  have h0 := hP.made
  obtain ⟨Al, cl, h1, hcl, _⟩ := hP.list
  obtain ⟨n, hn⟩ : ∃ n, rs.length = n := ⟨_, rfl⟩
  rw [hn] at h1 hcl ⊢
  clear hn hP
  go_enter Tryz.func40, Tryz.ntmps40
  go_wp2_with fail
  refine (is_true xb w h0).mono ?_; rintro e1 w1 ⟨rfl, rfl⟩
  go_wp2
  go_ret
  exact ⟨rfl, rfl⟩
set_option maxRecDepth 100000 in
set_option maxHeartbeats 1000000 in
theorem Bytes_log (S : Nat → Prop) (xb : Nat) (rs : List Rec) (hlen : (logV rs).length ≤ 70368744177664) (w : World) (hP : LogS w S xb rs) : Calls Tryz.prog 14 #[.pointer (some ⟨xb, 0, none⟩)] w fun e w' => ∃ v, e = .returned v ∧ OwnB w' w.heap.size v (logV rs) ∧ Within w w' := by
  have h0 := hP.made
  obtain ⟨Ab, cb, h3, hcb, hs⟩ := hP.bytes
  have CL := Lib.hid (clone_any Ab cb (logV rs) hlen w hs)
  obtain ⟨n, hn⟩ : ∃ n, (logV rs).length = n := ⟨_, rfl⟩
  rw [hn] at h3 hcb CL
  clear hn hP hs hlen
  go_enter Tryz.func14, Tryz.ntmps14
  go_wp2_with fail
  refine (is_true xb w h0).mono ?_; rintro e1 w1 ⟨rfl, rfl⟩
  go_wp2_with fail
  refine CL.out.mono ?_; rintro e1 w1 ⟨v, rfl, hO, h1⟩
  go_wp2
  go_ret
  exact ⟨_, rfl, hO, h1⟩
set_option maxRecDepth 100000 in
set_option maxHeartbeats 1000000 in
theorem Append_bad (S : Nat → Prop) (xb : Nat) (rs : List Rec) (hok : ∀ q ∈ rs, q.Ok pf) (D : Option Addr) (cd : Nat) (d : List Nat) (k : Int) (hbad : checkR pf k d ≠ 0) (hb : Bytes d) (hcd : d.length ≤ cd) (hdl : d.length ≤ 1152921504606846976) (w : World) (hT : FmS w) (hP : LogS w S xb rs) (hr : SlAt w D (u8v d)) : Calls Tryz.prog 9 #[.pointer (some ⟨xb, 0, none⟩), .agg #[.int .i64 k, .slice D d.length cd]] w fun e w' => e = .returned (.tuple #[.int .i64 0, .int .i64 (checkR pf k d)]) ∧ Within w w' := by
  have h0 := hP.made
  have hxb := hP.lt
  obtain ⟨Al, cl, h1, hcl, _⟩ := hP.list
  obtain ⟨W0, hW0⟩ : ∃ W0, W0 = w.alloc (.cells #[.int .i64 k, .slice D d.length cd] 30) := ⟨_, rfl⟩
  have hI0 : Within w W0 := by rw [hW0]; exact (Within.refl w).alloc _
  have z0 : W0.cell? ⟨w.heap.size, 0, none⟩ = some (.int .i64 k) := by rw [hW0]; simp
  have z1 : W0.cell? ⟨w.heap.size, 1, none⟩ = some (.slice D d.length cd) := by rw [hW0]; simp
  have zs : w.heap.size < W0.heap.size := by rw [hW0]; simp
  have q0 := (hI0.cells _ _ hxb).trans h0
  have q1 := (hI0.cells _ _ hxb).trans h1
  have hxb0 := Nat.lt_of_lt_of_le hxb hI0.size
  have JC := Lib.hid (jcheck_any k D cd d hb hcd hdl W0 (hT.of hI0) (hr.of hI0))
  obtain ⟨ck, hck⟩ : ∃ ck, checkR pf k d = ck := ⟨_, rfl⟩
  rw [hck] at JC hbad ⊢
  have v1 : (ck != 0) = true := bne_iff_ne.2 hbad
  obtain ⟨n, hn⟩ : ∃ n, rs.length = n := ⟨_, rfl⟩
  rw [hn] at h1 q1 hcl
  have HN := Lib.hid hn; obtain ⟨nd, hnd⟩ : ∃ n, d.length = n := ⟨_, rfl⟩
  rw [hnd] at JC hW0 z1 hcd ⊢
  have HI0 := Lib.hid hI0; clear hn hnd hck hP hT hr hb hdl hok
  have EI : Hid (Calls Tryz.prog 31 #[.pointer (some ⟨xb, 0, none⟩)] W0 fun e w' => e = .returned (.bool true) ∧ w' = W0) := Lib.hid (is_true xb W0 q0)
  go_enter Tryz.func9, Tryz.ntmps9
  go_wp2_with fail
  rw [← hW0]
  clear hW0
  refine EI.out.mono ?_; rintro e1 w1 ⟨rfl, rfl⟩
  go_wp2_with fail
  refine JC.out.mono ?_; rintro e1 w1 ⟨rfl, h2⟩
  go_wp2
  go_ret2
  exact ⟨rfl, HI0.out.trans h2⟩
set_option maxRecDepth 100000 in
set_option maxHeartbeats 1000000 in
theorem Append_full (S : Nat → Prop) (xb : Nat) (rs : List Rec) (hok : ∀ q ∈ rs, q.Ok pf) (D : Option Addr) (cd : Nat) (d : List Nat) (hfull : 1048576 ≤ rs.length) (k : Int) (hgood : checkR pf k d = 0) (hb : Bytes d) (hcd : d.length ≤ cd) (hdl : d.length ≤ 1152921504606846976) (w : World) (hT : FmS w) (hP : LogS w S xb rs) (hr : SlAt w D (u8v d)) : Calls Tryz.prog 9 #[.pointer (some ⟨xb, 0, none⟩), .agg #[.int .i64 k, .slice D d.length cd]] w fun e w' => e = .returned (.tuple #[.int .i64 0, .int .i64 2]) ∧ Within w w' := by
  have h0 := hP.made
  have hxb := hP.lt
  obtain ⟨Al, cl, h1, hcl, _⟩ := hP.list
  obtain ⟨W0, hW0⟩ : ∃ W0, W0 = w.alloc (.cells #[.int .i64 k, .slice D d.length cd] 30) := ⟨_, rfl⟩
  have hI0 : Within w W0 := by rw [hW0]; exact (Within.refl w).alloc _
  have z0 : W0.cell? ⟨w.heap.size, 0, none⟩ = some (.int .i64 k) := by rw [hW0]; simp
  have z1 : W0.cell? ⟨w.heap.size, 1, none⟩ = some (.slice D d.length cd) := by rw [hW0]; simp
  have zs : w.heap.size < W0.heap.size := by rw [hW0]; simp
  have q0 := (hI0.cells _ _ hxb).trans h0
  have q1 := (hI0.cells _ _ hxb).trans h1
  have hxb0 := Nat.lt_of_lt_of_le hxb hI0.size
  have JC := Lib.hid (jcheck_any k D cd d hb hcd hdl W0 (hT.of hI0) (hr.of hI0))
  rw [hgood] at JC
  have v1 : decide ((1048576 : Int) ≤ (rs.length : Int)) = true := decide_eq_true (by omega)
  obtain ⟨n, hn⟩ : ∃ n, rs.length = n := ⟨_, rfl⟩
  rw [hn] at h1 q1 hcl v1
  obtain ⟨nd, hnd⟩ : ∃ n, d.length = n := ⟨_, rfl⟩
  rw [hnd] at JC hW0 z1 hcd ⊢
  have HI0 := Lib.hid hI0; clear hn hnd hP hT hr hb hdl hok hgood hfull
  have EI : Hid (Calls Tryz.prog 31 #[.pointer (some ⟨xb, 0, none⟩)] W0 fun e w' => e = .returned (.bool true) ∧ w' = W0) := Lib.hid (is_true xb W0 q0)
  go_enter Tryz.func9, Tryz.ntmps9
  go_wp2_with fail
  rw [← hW0]
  clear hW0
  refine EI.out.mono ?_; rintro e1 w1 ⟨rfl, rfl⟩
  go_wp2_with fail
  refine JC.out.mono ?_; rintro e1 w1 ⟨rfl, h2⟩
  have q1' := (h2.cells _ _ hxb0).trans q1
  have hxb1 := Nat.lt_of_lt_of_le hxb0 h2.size
  go_wp2
  go_ret2
  exact ⟨rfl, HI0.out.trans h2⟩
set_option maxRecDepth 100000 in
set_option maxHeartbeats 1000000 in
theorem Append_good (S : Nat → Prop) (xb : Nat) (rs : List Rec) (hok : ∀ q ∈ rs, q.Ok pf) (D : Option Addr) (cd : Nat) (d : List Nat) (hfull : rs.length < 1048576) (k : Nat) (hgood : checkR pf (k : Int) d = 0) (hb : Bytes d) (hcd : d.length ≤ cd) (hdl : d.length ≤ 1152921504606846976) (w : World) (hT : FmS w) (hP : LogS w S xb rs) (hr : SlAt w D (u8v d)) : Calls Tryz.prog 9 #[.pointer (some ⟨xb, 0, none⟩), .agg #[.int .i64 (k : Int), .slice D d.length cd]] w fun e w' => e = .returned (.tuple #[.int .i64 (rs.length : Int), .int .i64 0]) ∧ LogS w' (More S w w') xb (rs ++ [⟨k, d⟩]) ∧ ButS S w w' := by
  have hokr : Rec.Ok pf ⟨k, d⟩ := ⟨hgood, hb⟩
  have hok2 : ∀ q ∈ rs ++ [⟨k, d⟩], q.Ok pf := fun q hq => by
    rcases List.mem_append.1 hq with hq | hq
    · exact hok q hq
    · rw [List.mem_singleton] at hq; rw [hq]; exact hokr
  have h0 := hP.made
  have hxb := hP.lt
  obtain ⟨Al, cl, h1, hcl, _⟩ := hP.list
  obtain ⟨W0, hW0⟩ : ∃ W0, W0 = w.alloc (.cells #[.int .i64 (k : Int), .slice D d.length cd] 30) := ⟨_, rfl⟩
  have hI0 : Within w W0 := by rw [hW0]; exact (Within.refl w).alloc _
  have z0 : W0.cell? ⟨w.heap.size, 0, none⟩ = some (.int .i64 (k : Int)) := by rw [hW0]; simp
  have z1 : W0.cell? ⟨w.heap.size, 1, none⟩ = some (.slice D d.length cd) := by rw [hW0]; simp
  have zs : w.heap.size < W0.heap.size := by rw [hW0]; simp
  have q0 := (hI0.cells _ _ hxb).trans h0
  have q1 := (hI0.cells _ _ hxb).trans h1
  have hxb0 := Nat.lt_of_lt_of_le hxb hI0.size
  have JC := Lib.hid (jcheck_any (k : Int) D cd d hb hcd hdl W0 (hT.of hI0) (hr.of hI0))
  rw [hgood] at JC
  have v1 : decide ((1048576 : Int) ≤ (rs.length : Int)) = false := decide_eq_false (by omega)
  have PU : Hid (∀ W, Within W0 W → Calls Tryz.prog 33 #[.pointer (some ⟨xb, 0, none⟩), .agg #[.int .i64 (k : Int), .slice D d.length cd]] W fun e w' => e = .returned (.tuple #[]) ∧ LogS w' (More S W w') xb (rs ++ [⟨k, d⟩]) ∧ ButS S W w') := Lib.hid (fun W h => jput_any S xb rs ⟨k, d⟩ hok2 hfull D cd hcd W (hP.of (hI0.trans h)) (hr.of (hI0.trans h)))
  obtain ⟨n, hn⟩ : ∃ n, rs.length = n := ⟨_, rfl⟩
  rw [hn] at h1 q1 hcl v1 hfull ⊢
  have HN := Lib.hid hn
  obtain ⟨nd, hnd⟩ : ∃ n, d.length = n := ⟨_, rfl⟩
  rw [hnd] at JC hW0 z1 hcd PU ⊢
  have HI0 := Lib.hid hI0; clear hn hnd hP hT hr hb hdl hok hok2 hokr hgood
  have EI : Hid (Calls Tryz.prog 31 #[.pointer (some ⟨xb, 0, none⟩)] W0 fun e w' => e = .returned (.bool true) ∧ w' = W0) := Lib.hid (is_true xb W0 q0)
  go_enter Tryz.func9, Tryz.ntmps9
  go_wp2_with fail
  rw [← hW0]
  clear hW0
  refine EI.out.mono ?_; rintro e1 w1 ⟨rfl, rfl⟩
  go_wp2_with fail
  refine JC.out.mono ?_; rintro e1 w1 ⟨rfl, h2⟩
  have q1' := (h2.cells _ _ hxb0).trans q1
  have hxb1 := Nat.lt_of_lt_of_le hxb0 h2.size
  have z0' := (h2.cells _ 0 zs).trans z0
  have z1' := (h2.cells _ 1 zs).trans z1
  have zs' := Nat.lt_of_lt_of_le zs h2.size
  go_wp2_with fail
  refine (PU.out _ h2).mono ?_; rintro e3 w3 ⟨rfl, hL3, hB3⟩
  have hxb3 := hL3.lt
  obtain ⟨Al3, cl3, q3, hcl3, _⟩ := hL3.list
  rw [List.length_append, HN.out] at q3 hcl3
  simp only [List.length_cons, List.length_nil, Nat.zero_add] at q3 hcl3
  have HL3 := Lib.hid hL3; have HB3 := Lib.hid hB3; clear hL3 hB3
  have v2 : ((n + 1 : Nat) : Int) - 1 = (n : Int) := by omega
  go_wp2
  go_ret2
  refine ⟨by first | rfl | (simp; done), ?_, ?_⟩
  · refine HL3.out.mono fun j hj => ?_
    rcases hj with hj | hj
    · exact .inl hj
    · exact .inr ⟨Nat.le_trans (HI0.out.trans h2).size hj.1, hj.2⟩
  · exact (ButS.in_ (HI0.out.trans h2)).trans HB3.out fun _ _ h => h
end Go.Proofs.YtpmjlaiafgbjgaaGreatDoor
end

section
namespace Go.Proofs.YtpmjlaiafgbjgaaGreatDoor
open Go.RowKit
theorem read_ok {b : List Nat} (hb : Bytes b) : (∀ r ∈ (readV pf (b.drop 8) 0 startV).1, r.Ok pf) ∧ (readV pf (b.drop 8) 0 startV).1.length ≤ 1048576 := by
  obtain ⟨h1, _, _, _, h5, _⟩ := readV_back (F := pf) _ (b.drop 8) 0 startV (Nat.le_refl _) (fun x hx => hb x (List.mem_of_mem_drop hx)) startV_lt
  refine ⟨h1, ?_⟩
  by_cases h : (readV pf (b.drop 8) 0 startV).1 = []
  · rw [h]; exact Nat.zero_le _
  · have := h5 h; omega
theorem take_snoc {α : Type} {l : List α} {i : Nat} {x : α} (h : l[i]? = some x) : l.take i ++ [x] = l.take (i + 1) := by
  obtain ⟨hi, rfl⟩ := List.getElem?_eq_some_iff.1 h
  rw [List.take_add_one, List.getElem?_eq_getElem hi]; rfl
set_option maxRecDepth 100000 in
set_option maxHeartbeats 1000000 in
theorem Open_any (A : Option Addr) (c : Nat) (b : List Nat) (hb : Bytes b) (hlen : b.length ≤ 140737488355328) (hc : b.length ≤ c) (w : World) (hT : FmS w) (hr : SlAt w A (u8v b)) : Calls Tryz.prog 13 #[.slice A b.length c] w fun e w' => (b.take 8 ≠ magicV ∧ e = .returned (.tuple #[.pointer none, .agg #[.int .i64 1, .int .i64 0]]) ∧ Within w w') ∨ (b.take 8 = magicV ∧ ∃ xb, e = .returned (.tuple #[.pointer (some ⟨xb, 0, none⟩), .agg #[.int .i64 ((logRead b).2.1 : Int), .int .i64 ((logRead b).2.2 : Int)]]) ∧ LogS w' (fun j => w.heap.size ≤ j ∧ j < w'.heap.size) xb (logRead b).1 ∧ Within w w') := by
  have RDA := Lib.hid (read_any A c b hb hlen hc (w.alloc (.cells #[.int .i64 0, .int .i64 0] 42)) (hT.of ((Within.refl w).alloc _)) (hr.of ((Within.refl w).alloc _)))
  obtain ⟨hok, hle⟩ := read_ok hb
  have HOK := Lib.hid hok
  clear hb hT hr hok
  obtain ⟨⟨rs, y, a⟩, hlr⟩ : ∃ t, logRead b = t := ⟨_, rfl⟩
  rw [hlr]
  have HLR := Lib.hid hlr; clear hlr
  go_enter Tryz.func13, Tryz.ntmps13
  go_wp2_with fail
  refine RDA.out.mono ?_; rintro e1 w1 hP
  clear RDA
  rcases hP with ⟨hn, rfl, h1⟩ | ⟨hm, rb, rfl, hP⟩
  · have HNO := Lib.hid hn; clear hn HOK hle HLR
    have hWT : Within w (w.alloc (.cells #[.int .i64 0, .int .i64 0] 42)) := (Within.refl w).alloc _
    have q0 : w1.cell? ⟨w.heap.size, 0, none⟩ = some (.int .i64 0) := (h1.cells _ _ (by simp)).trans (by simp)
    have q1 : w1.cell? ⟨w.heap.size, 1, none⟩ = some (.int .i64 0) := (h1.cells _ _ (by simp)).trans (by simp)
    have qf0 : w1.frozen? ⟨w.heap.size, 0, none⟩ = false := (h1.frozens _ _ (by simp)).trans (by simp)
    have qf1 : w1.frozen? ⟨w.heap.size, 1, none⟩ = false := (h1.frozens _ _ (by simp)).trans (by simp)
    have qs : w.heap.size < w1.heap.size := Nat.lt_of_lt_of_le (by simp) h1.size
    have H1 := Lib.hid h1; clear h1
    go_wp2
    obtain ⟨W1, hW1⟩ : ∃ W1, W1 = w1.alloc (.cells #[.int .i64 1, .int .i64 0] 42) := ⟨_, rfl⟩
    have hA : Within w1 W1 := by rw [hW1]; exact (Within.refl w1).alloc _
    have p0 : W1.cell? ⟨w1.heap.size, 0, none⟩ = some (.int .i64 1) := by rw [hW1]; simp
    have p1 : W1.cell? ⟨w1.heap.size, 1, none⟩ = some (.int .i64 0) := by rw [hW1]; simp
    have ps : w1.heap.size < W1.heap.size := by rw [hW1]; simp
    have qne : ¬ w.heap.size = w1.heap.size := by omega
    have q0 := (hA.cells _ 0 qs).trans q0
    have q1 := (hA.cells _ 1 qs).trans q1
    have qf0 := (hA.frozens _ 0 qs).trans qf0
    have qf1 := (hA.frozens _ 1 qs).trans qf1
    have qs := Nat.lt_of_lt_of_le qs hA.size
    rw [← hW1]
    clear hW1
    refine wp_region_schG (fun W => W.cell? ⟨w.heap.size, 0, none⟩ = some (.int .i64 0) ∧ W.cell? ⟨w.heap.size, 1, none⟩ = some (.int .i64 0) ∧ W.cell? ⟨w1.heap.size, 0, none⟩ = some (.int .i64 1) ∧ W.cell? ⟨w1.heap.size, 1, none⟩ = some (.int .i64 0) ∧ w.heap.size < W.heap.size ∧ w1.heap.size < W.heap.size ∧ W.frozen? ⟨w.heap.size, 0, none⟩ = false ∧ W.frozen? ⟨w.heap.size, 1, none⟩ = false ∧ Within W1 W) 2 (.firm 0 (.firm 1 (.one 2 .nil))) (by kernel_rfl) (by kernel_rfl) ⟨q0, q1, p0, p1, qs, ps, qf0, qf1, Within.refl _⟩ ?_
    rintro w0 ⟨q0, q1, p0, p1, qs, ps, qf0, qf1, hw0⟩
    try simp only [Act.put, List.setIfInBounds_toArray, List.set_cons_zero, List.set_cons_succ]
    iterate 2
      apply sch_firm rfl rfl (by repeat (first | with_reducible exact Within.refl _ | with_reducible assumption | with_reducible refine Within.alloc ?_ _ | with_reducible refine Within.drew ?_ | with_reducible refine Within.drewN ?_ _ | with_reducible refine Within.setCell ?_ (by first | (simp; done) | (simp; omega)) _ | with_reducible refine Within.trans ?_ (by assumption)))
      · intro wq hq
        have hcq := hq.cells
        clear hq
        go_simp
        rfl
      try simp only [Act.put, List.setIfInBounds_toArray, List.set_cons_zero, List.set_cons_succ]
    refine sch_one rfl rfl (fun K hK => ?_)
    go_simp
    refine hK _ _ (fun h => absurd h (by decide)) ?_
    clear hK K
    try simp only [Act.put, List.setIfInBounds_toArray, List.set_cons_zero, List.set_cons_succ]
    refine sch_nil ?_
    go_wp2
    have hX : Within w w0 := Within.trans ((Within.refl w).alloc _) (H1.out.trans (hA.trans hw0))
    have hK9 : But w.heap.size w0 (((w0.setCell ⟨w.heap.size, 0, none⟩ (.int .i64 1)).setCell ⟨w.heap.size, 1, none⟩ (.int .i64 0)).drew) := (((But.refl w.heap.size w0).set (.inl rfl) _).set (.inl rfl) _).drew
    have hI9 : Within w (((w0.setCell ⟨w.heap.size, 0, none⟩ (.int .i64 1)).setCell ⟨w.heap.size, 1, none⟩ (.int .i64 0)).drew) := (((hX.setCell (Nat.le_refl _) _).setCell (Nat.le_refl _) _).drew)
    refine bodyPost_ret (v := .tuple #[.pointer none, .agg #[.int .i64 1, .int .i64 0]]) (by simp [results, Tryz.results13, go_sem, q0, q1, qf0, qf1, qs]) rfl (.inl ⟨HNO.out, rfl, hI9⟩)
  · obtain ⟨lv, hwrb, hC, hL, h1⟩ := hP
    obtain ⟨hrs, hy, ha⟩ : (readV pf (b.drop 8) 0 startV).1 = rs ∧ (readV pf (b.drop 8) 0 startV).2.1 = y ∧ 8 + (readV pf (b.drop 8) 0 startV).2.2.1 = a := by have := HLR.out; rw [logRead_yes hm] at this; simpa only [Prod.mk.injEq] using this
    obtain ⟨k, hk⟩ : ∃ k, (readV pf (b.drop 8) 0 startV).2.2.2 = k := ⟨_, rfl⟩
    rw [hy, ha]
    rw [ha, hk] at hC
    rw [hrs] at hL hle
    have HOK2 : Hid (∀ r ∈ rs, r.Ok pf) := Lib.hid (by rw [← hrs]; exact HOK.out)
    have HM := Lib.hid hm
    clear hy ha hrs hk hm HOK
    have hWT : Within w (w.alloc (.cells #[.int .i64 0, .int .i64 0] 42)) := (Within.refl w).alloc _
    have q0 : w1.cell? ⟨w.heap.size, 0, none⟩ = some (.int .i64 0) := (h1.cells _ _ (by simp)).trans (by simp)
    have q1 : w1.cell? ⟨w.heap.size, 1, none⟩ = some (.int .i64 0) := (h1.cells _ _ (by simp)).trans (by simp)
    have qf0 : w1.frozen? ⟨w.heap.size, 0, none⟩ = false := (h1.frozens _ _ (by simp)).trans (by simp)
    have qf1 : w1.frozen? ⟨w.heap.size, 1, none⟩ = false := (h1.frozens _ _ (by simp)).trans (by simp)
    have qs : w.heap.size < w1.heap.size := Nat.lt_of_lt_of_le (by simp) h1.size
    have p3 := hC.2.2.2.1
    have hrb1 := hC.lt
    obtain ⟨Al, cl, rfl, hcl, hRB, _, _⟩ := hL.at
    rw [List.length_map] at hcl p3
    have H1 := Lib.hid h1; have HL := Lib.hid hL; have HRB := Lib.hid hRB; clear h1 hC hL hRB
    go_wp2_with fail
    obtain ⟨W1, hW1⟩ : ∃ W1, W1 = w1.alloc (.cells #[.int .i64 (y : Int), .int .i64 (a : Int)] 42) := ⟨_, rfl⟩
    have hA : Within w1 W1 := by rw [hW1]; exact (Within.refl w1).alloc _
    have p0 : W1.cell? ⟨w1.heap.size, 0, none⟩ = some (.int .i64 (y : Int)) := by rw [hW1]; simp
    have p1 : W1.cell? ⟨w1.heap.size, 1, none⟩ = some (.int .i64 (a : Int)) := by rw [hW1]; simp
    have ps : w1.heap.size < W1.heap.size := by rw [hW1]; simp
    have qne : ¬ w.heap.size = w1.heap.size := by omega
    have q0 := (hA.cells _ 0 qs).trans q0
    have q1 := (hA.cells _ 1 qs).trans q1
    have qf0 := (hA.frozens _ 0 qs).trans qf0
    have qf1 := (hA.frozens _ 1 qs).trans qf1
    have qs := Nat.lt_of_lt_of_le qs hA.size
    rw [← hW1]
    have hC3 := (hA.cells _ 3 hrb1).trans p3
    have hrb := Nat.lt_of_lt_of_le hrb1 hA.size
    have hne1 : ¬ rb = w.heap.size := by have := HL.out; simp at hwrb; omega
    have HRB1 := Lib.hid (HRB.out.of hA)
    have HA1 := Lib.hid (Within.trans ((Within.refl w).alloc _) (H1.out.trans hA))
    clear hW1 hA hcl p3 hrb1 HRB H1 HL
    refine (New_log W1).mono ?_; rintro e2 w2 ⟨xb, rfl, hN, h2⟩
    have q0 := (h2.cells _ _ qs).trans q0
    have q1 := (h2.cells _ _ qs).trans q1
    have p0 := (h2.cells _ _ ps).trans p0
    have p1 := (h2.cells _ _ ps).trans p1
    have hC3 := (h2.cells _ _ hrb).trans hC3
    have hrb2 := Nat.lt_of_lt_of_le hrb h2.size
    have HN := Lib.hid hN; have H2 := Lib.hid h2; clear hN h2
    have Q0 : Hid (W1.cell? ⟨w.heap.size, 0, none⟩ = some (.int .i64 0) ∧ W1.cell? ⟨w.heap.size, 1, none⟩ = some (.int .i64 0) ∧ W1.cell? ⟨w1.heap.size, 0, none⟩ = some (.int .i64 (y : Int)) ∧ W1.cell? ⟨w1.heap.size, 1, none⟩ = some (.int .i64 (a : Int)) ∧ W1.frozen? ⟨w.heap.size, 0, none⟩ = false ∧ W1.frozen? ⟨w.heap.size, 1, none⟩ = false) := Lib.hid ⟨by rw [← H2.out.cells _ _ qs]; exact q0, by rw [← H2.out.cells _ _ qs]; exact q1, by rw [← H2.out.cells _ _ ps]; exact p0, by rw [← H2.out.cells _ _ ps]; exact p1, qf0, qf1⟩
    clear q0 q1 p0 p1 qf0 qf1
    go_wp2
    go_loopw [23] (fun iv wr => ∃ i : Nat, i ≤ rs.length ∧ iv = .int .i64 (i : Int) ∧ LogS wr (fun j => W1.heap.size ≤ j ∧ j < wr.heap.size) xb (rs.take i) ∧ Within W1 wr) (fun iv _ => rs.length - (intOf iv).toNat)
    case atStart => exact ⟨0, by omega, rfl, HN.out, H2.out⟩
    case round =>
      obtain ⟨i, hi, rfl, hPi, hin⟩ := hrel
      by_cases hlt : i < rs.length
      · obtain ⟨r, hr⟩ : ∃ r, rs[i]? = some r := ⟨_, List.getElem?_eq_getElem hlt⟩
        obtain ⟨g, Dv, cv, rfl, l1, y0, y1, hcv', hs1', _⟩ := (HRB1.out.of hin) i r.i (by rw [List.getElem?_map, hr]; rfl)
        have x0 : wr.cell? ⟨g, i * 2, none⟩ = some (.int .i64 (r.kind : Int)) := y0
        have x1 : wr.cell? ⟨g, i * 2 + 1, none⟩ = some (.slice Dv r.data.length cv) := y1
        have hcv : r.data.length ≤ cv := hcv'
        have hs1 : SlAt wr Dv (u8v r.data) := hs1'; clear y0 y1 hs1'
        have hmr : r ∈ rs := List.mem_of_getElem? hr
        have PU : Hid (∀ W, Within wr W → Calls Tryz.prog 33 #[.pointer (some ⟨xb, 0, none⟩), .agg #[.int .i64 (r.kind : Int), .slice Dv r.data.length cv]] W fun e w' => e = .returned (.tuple #[]) ∧ LogS w' (More (fun j => W1.heap.size ≤ j ∧ j < wr.heap.size) W w') xb (rs.take i ++ [r]) ∧ ButS (fun j => W1.heap.size ≤ j ∧ j < wr.heap.size) W w') := Lib.hid (fun W h => jput_any _ xb (rs.take i) r (fun q hq => HOK2.out q (by rcases List.mem_append.1 hq with hq | hq; exact List.mem_of_mem_take hq; rw [List.mem_singleton] at hq; rw [hq]; exact hmr)) (by rw [List.length_take]; omega) Dv cv hcv W (hPi.of h) (hs1.of h))
        have HTS := Lib.hid (take_snoc hr)
        have b1 : (i : Int) < (rs.length : Int) := by omega
        have HPI := Lib.hid hPi; have HIN := Lib.hid hin; clear hPi hin hs1 hr hmr hcv hcv'
        obtain ⟨nd, hnd⟩ : ∃ n, r.data.length = n := ⟨_, rfl⟩
        obtain ⟨kd, hkd⟩ : ∃ n, r.kind = n := ⟨_, rfl⟩
        rw [hnd, hkd] at PU
        rw [hnd] at x1
        rw [hkd] at x0
        clear hnd hkd
        go_wp2_with fail
        refine (PU.out _ (by repeat (first | with_reducible exact Within.refl _ | with_reducible assumption | with_reducible refine Within.alloc ?_ _ | with_reducible refine Within.drew ?_ | with_reducible refine Within.drewN ?_ _ | with_reducible refine Within.setCell ?_ (by first | (simp; done) | (simp; omega)) _ | with_reducible refine Within.trans ?_ (by assumption)))).mono ?_; rintro e3 w3 ⟨rfl, hL3, hB3⟩
        have hB3' : ButS (fun j => W1.heap.size ≤ j) wr w3 := (ButS.in_ (by repeat (first | with_reducible exact Within.refl _ | with_reducible assumption | with_reducible refine Within.alloc ?_ _ | with_reducible refine Within.drew ?_ | with_reducible refine Within.drewN ?_ _ | with_reducible refine Within.setCell ?_ (by first | (simp; done) | (simp; omega)) _ | with_reducible refine Within.trans ?_ (by assumption)))).trans hB3 (fun j _ h => h.1)
        have hw3 : Within W1 w3 := HIN.out.asides hB3' fun j h => h
        have hL3' := hL3.mono (T := fun j => W1.heap.size ≤ j ∧ j < w3.heap.size) (fun j hj => by
          rcases hj with hj | hj
          · exact ⟨hj.1, Nat.lt_of_lt_of_le hj.2 hB3'.size⟩
          · have h1 := HIN.out.size; have h2 := hj.1; simp at h2; exact ⟨by omega, hj.2⟩)
        rw [HTS.out] at hL3'
        have HW3 := Lib.hid hw3; have HL3 := Lib.hid hL3'; clear hL3 hB3 hB3' hw3 hL3'
        go_wp2
        go_roundw
        case rel => exact ⟨i + 1, hlt, by go_num, HL3.out, HW3.out⟩
        case measure => simp [intOf]; omega
      · obtain rfl : i = rs.length := by omega
        rw [List.take_length] at hPi
        obtain ⟨q0, q1, p0, p1, qf0, qf1⟩ := Q0.out
        have q0 := (hin.cells _ _ qs).trans q0
        have q1 := (hin.cells _ _ qs).trans q1
        have p0 := (hin.cells _ _ ps).trans p0
        have p1 := (hin.cells _ _ ps).trans p1
        have qf0 := (hin.frozens _ _ qs).trans qf0
        have qf1 := (hin.frozens _ _ qs).trans qf1
        have qs := Nat.lt_of_lt_of_le qs hin.size
        have ps := Nat.lt_of_lt_of_le ps hin.size
        have HPI := Lib.hid hPi; have HIN := Lib.hid hin; clear hPi hin
        go_wp2
        refine wp_region_schG (fun W => W.cell? ⟨w.heap.size, 0, none⟩ = some (.int .i64 0) ∧ W.cell? ⟨w.heap.size, 1, none⟩ = some (.int .i64 0) ∧ W.cell? ⟨w1.heap.size, 0, none⟩ = some (.int .i64 (y : Int)) ∧ W.cell? ⟨w1.heap.size, 1, none⟩ = some (.int .i64 (a : Int)) ∧ w.heap.size < W.heap.size ∧ w1.heap.size < W.heap.size ∧ W.frozen? ⟨w.heap.size, 0, none⟩ = false ∧ W.frozen? ⟨w.heap.size, 1, none⟩ = false ∧ Within wr W) 3 (.firm 0 (.firm 1 (.firm 2 (.one 3 .nil)))) (by kernel_rfl) (by kernel_rfl) ⟨q0, q1, p0, p1, qs, ps, qf0, qf1, Within.refl _⟩ ?_
        rintro w0 ⟨q0, q1, p0, p1, qs, ps, qf0, qf1, hw0⟩
        try simp only [Act.put, List.setIfInBounds_toArray, List.set_cons_zero, List.set_cons_succ]
        iterate 3
          apply sch_firm rfl rfl (by repeat (first | with_reducible exact Within.refl _ | with_reducible assumption | with_reducible refine Within.alloc ?_ _ | with_reducible refine Within.drew ?_ | with_reducible refine Within.drewN ?_ _ | with_reducible refine Within.setCell ?_ (by first | (simp; done) | (simp; omega)) _ | with_reducible refine Within.trans ?_ (by assumption)))
          · intro wq hq
            have hcq := hq.cells
            clear hq
            go_simp
            rfl
          try simp only [Act.put, List.setIfInBounds_toArray, List.set_cons_zero, List.set_cons_succ]
        refine sch_one rfl rfl (fun K hK => ?_)
        go_simp
        refine hK _ _ (fun h => absurd h (by decide)) ?_
        clear hK K
        try simp only [Act.put, List.setIfInBounds_toArray, List.set_cons_zero, List.set_cons_succ]
        refine sch_nil ?_
        go_wp2
        have hX : Within w w0 := HA1.out.trans (HIN.out.trans hw0)
        have hK9 : But w.heap.size w0 (((w0.setCell ⟨w.heap.size, 0, none⟩ (.int .i64 (y : Int))).setCell ⟨w.heap.size, 1, none⟩ (.int .i64 (a : Int))).drew) := (((But.refl w.heap.size w0).set (.inl rfl) _).set (.inl rfl) _).drew
        have hI9 : Within w (((w0.setCell ⟨w.heap.size, 0, none⟩ (.int .i64 (y : Int))).setCell ⟨w.heap.size, 1, none⟩ (.int .i64 (a : Int))).drew) := (((hX.setCell (Nat.le_refl _) _).setCell (Nat.le_refl _) _).drew)
        have hL9 := (HPI.out.of hw0).keep (w' := ((w0.setCell ⟨w.heap.size, 0, none⟩ (.int .i64 (y : Int))).setCell ⟨w.heap.size, 1, none⟩ (.int .i64 (a : Int))).drew) (fun j hj hl => hK9.block j hl (fun e => by have h1 := Option.some.inj e; have h2 := HA1.out.size; have h3 := hj.1; omega))
        have hL8 := hL9.mono (T := fun j => w.heap.size ≤ j ∧ j < (((w0.setCell ⟨w.heap.size, 0, none⟩ (.int .i64 (y : Int))).setCell ⟨w.heap.size, 1, none⟩ (.int .i64 (a : Int))).drew).heap.size) (fun j hj => ⟨Nat.le_trans HA1.out.size hj.1, Nat.lt_of_lt_of_le hj.2 (Nat.le_trans hw0.size hK9.size)⟩)
        refine bodyPost_ret (v := .tuple #[.pointer (some ⟨xb, 0, none⟩), .agg #[.int .i64 (y : Int), .int .i64 (a : Int)]]) (by simp [results, Tryz.results13, go_sem, q0, q1, qf0, qf1, qs]) rfl (.inr ⟨HM.out, xb, rfl, hL8, hI9⟩)
end Go.Proofs.YtpmjlaiafgbjgaaGreatDoor
end

section
namespace Go.Proofs.YtpmjlaiafgbjgaaGreatDoor
open Go.RowKit
structure RlogS (w : World) (S : Nat → Prop) (yb : Nat) (rs : List Rec) : Prop where
  at_ : S yb
  firm : w.frozen? ⟨yb, 0, none⟩ = false
  rows : ∃ (ps : List (IRec × Value)) (lv : Value), ps.map Prod.fst = rs.map Rec.i ∧ w.cell? ⟨yb, 0, none⟩ = some lv ∧ RecP w 0 lv ps ∧ ∀ j, (lv.ownBlock = some j ∨ ∃ p ∈ ps, p.2.ownBlock = some j) → S j ∧ j ≠ yb
theorem RlogS.lt {w : World} {S : Nat → Prop} {yb : Nat} {rs : List Rec} (h : RlogS w S yb rs) : yb < w.heap.size := by
  obtain ⟨_, _, ps, lv, _, h1, _⟩ := h
  exact World.block_lt_of_cell? _ _ h1
theorem RlogS.keep {w w' : World} {S : Nat → Prop} {yb : Nat} {rs : List Rec} (h : RlogS w S yb rs) (k : ∀ j, S j → j < w.heap.size → w'.heap[j]? = w.heap[j]?) : RlogS w' S yb rs := by
  have hl := h.lt
  obtain ⟨h0, h1, ps, lv, a1, a2, a3, a4⟩ := h
  have hx := k yb h0 hl
  exact ⟨h0, (World.frozen?_of_block hx).trans h1, ps, lv, a1, (World.cell?_of_block hx).trans a2, a3.keep (fun j hj => k j (a4 j (.inl hj)).1 (a3.1.lt j hj).2) (fun p hp j hj => k j (a4 j (.inr ⟨p, hp, hj⟩)).1 ((a3.2 p hp).1.lt j hj).2), a4⟩
theorem RlogS.of {w w' : World} {S : Nat → Prop} {yb : Nat} {rs : List Rec} (h : RlogS w S yb rs) (k : Within w w') : RlogS w' S yb rs := h.keep fun j _ hj => k.block j hj
theorem RlogS.butS {w w' : World} {S T : Nat → Prop} {yb : Nat} {rs : List Rec} (h : RlogS w S yb rs) (k : ButS T w w') (hd : ∀ j, S j → j < w.heap.size → ¬ T j) : RlogS w' S yb rs := h.keep fun j hj hl => k.block j hl (hd j hj hl)
theorem RlogS.mono {w : World} {S T : Nat → Prop} {yb : Nat} {rs : List Rec} (h : RlogS w S yb rs) (k : ∀ j, S j → T j) : RlogS w T yb rs := by
  obtain ⟨h0, h1, ps, lv, a1, a2, a3, a4⟩ := h
  exact ⟨k _ h0, h1, ps, lv, a1, a2, a3, fun j hj => ⟨k _ (a4 j hj).1, (a4 j hj).2⟩⟩
theorem RlogS.list {w : World} {S : Nat → Prop} {yb : Nat} {rs : List Rec} (h : RlogS w S yb rs) : ∃ A c, w.cell? ⟨yb, 0, none⟩ = some (.slice A rs.length c) ∧ rs.length ≤ c ∧ RecB w A (rs.map Rec.i) ∧ RecAt w (fun _ => True) A (rs.map Rec.i) := by
  obtain ⟨h0, h1, ps, lv, a1, a2, a3, a4⟩ := h
  obtain ⟨A, c, rfl, hc, hB, _, h7⟩ := RecsO.at (rs := rs.map Rec.i) ⟨ps, a1, a3⟩
  rw [List.length_map] at hc a2
  exact ⟨A, c, a2, hc, hB, h7.weak fun _ _ => trivial⟩
set_option maxRecDepth 100000 in
set_option maxHeartbeats 1000000 in
theorem Rbytes_log (S : Nat → Prop) (yb : Nat) (rs : List Rec) (hok : ∀ q ∈ rs, q.Ok pf) (hle : rs.length ≤ 1048576) (w : World) (hP : RlogS w S yb rs) : Calls Tryz.prog 42 #[.pointer (some ⟨yb, 0, none⟩)] w fun e w' => ∃ v, e = .returned v ∧ OwnB w' w.heap.size v (logV rs) ∧ Within w w' := by
  obtain ⟨A, c, h1, hc, hRB, _⟩ := hP.list
  have hyb := hP.lt
  have HRB := Lib.hid hRB; clear hRB hP
  obtain ⟨n, hn⟩ : ∃ n, rs.length = n := ⟨_, rfl⟩
  rw [hn] at h1 hc hle
  have HN := Lib.hid hn; clear hn
  have HOK := Lib.hid hok; clear hok
  go_enter Tryz.func42, Tryz.ntmps42
  go_wp2_with fail
  refine (Magic_any w).mono ?_; rintro e1 w1 ⟨v1, rfl, hO1, hw1⟩
  obtain ⟨A1, c1, rfl, _, _, _⟩ := hO1.form
  have HO1 := Lib.hid hO1; clear hO1
  go_wp2_with fail
  refine (start_any _).mono ?_; rintro e2 w2 ⟨rfl, hw2⟩
  have HW2 := Lib.hid (hw1.trans hw2)
  have HO2 := Lib.hid (HO1.out.of hw2)
  clear hw1 hw2 HO1
  go_wp2
  go_loopw [3, 4, 5] (fun bv kv iv wr => ∃ i : Nat, i ≤ n ∧ iv = .int .i64 (i : Int) ∧ kv = .int .u32 (lastV (rs.take i) 0 startV : Int) ∧ OwnB wr w.heap.size bv (logV (rs.take i)) ∧ Within w wr) (fun _ _ iv _ => n - (intOf iv).toNat)
  case atStart => exact ⟨0, by omega, rfl, rfl, HO2.out, HW2.out⟩
  case round =>
    obtain ⟨i, hi, rfl, rfl, hO, hin⟩ := hrel
    have h1' := (hin.cells _ _ hyb).trans h1
    have hyb' := Nat.lt_of_lt_of_le hyb hin.size
    by_cases hlt : i < n
    · have hlt' : i < rs.length := by rw [HN.out]; exact hlt
      obtain ⟨r, hr⟩ : ∃ r, rs[i]? = some r := ⟨_, List.getElem?_eq_getElem hlt'⟩
      obtain ⟨g, Dv, cv, rfl, l1, y0, y1, hcv', hs1', _⟩ := (HRB.out.of hin) i r.i (by rw [List.getElem?_map, hr]; rfl)
      have x0 : wr.cell? ⟨g, i * 2, none⟩ = some (.int .i64 (r.kind : Int)) := y0
      have x1 : wr.cell? ⟨g, i * 2 + 1, none⟩ = some (.slice Dv r.data.length cv) := y1
      have hs1 : SlAt wr Dv (u8v r.data) := hs1'; clear y0 y1 hs1'
      have hmr : r.Ok pf := HOK.out r (List.mem_of_getElem? hr)
      obtain ⟨hk1, hk2, hk3⟩ := hmr.parts
      have hll := lastV_lt (rs.take i) 0 startV (fun q hq => HOK.out q (List.mem_of_mem_take hq)) startV_lt
      have LY := Lib.hid (Rlay_any r i (lastV (rs.take i) 0 startV) Dv cv (by omega) (by omega) hll hk3 hmr.bytes wr hs1)
      have hsn := take_snoc hr
      have hlen2 := logV_le (l := rs.take (i + 1)) (fun q hq => (HOK.out q (List.mem_of_mem_take hq)).parts.2.2) (by rw [List.length_take]; omega)
      have hlog : logV (rs.take (i + 1)) = logV (rs.take i) ++ layV r i (lastV (rs.take i) 0 startV) := by rw [← hsn, logV_snoc, List.length_take, Nat.min_eq_left (by omega)]
      have hlast : lastV (rs.take (i + 1)) 0 startV = nextV r i (lastV (rs.take i) 0 startV) := by rw [← hsn, lastV_snoc, List.length_take, Nat.min_eq_left (by omega), Nat.zero_add]
      rw [hlog, List.length_append] at hlen2
      obtain ⟨k, hk⟩ : ∃ k, lastV (rs.take i) 0 startV = k := ⟨_, rfl⟩
      rw [hk] at LY hlen2 hlog hlast ⊢
      clear hll hk
      obtain ⟨LT, hLT⟩ : ∃ x, layV r i k = x := ⟨_, rfl⟩
      rw [hLT] at LY hlen2 hlog
      clear hLT
      obtain ⟨nx, hnx⟩ : ∃ x, nextV r i k = x := ⟨_, rfl⟩
      rw [hnx] at LY hlast
      clear hnx
      obtain ⟨nd, hnd⟩ : ∃ n, r.data.length = n := ⟨_, rfl⟩
      obtain ⟨kd, hkd⟩ : ∃ n, r.kind = n := ⟨_, rfl⟩
      rw [hnd, hkd] at LY
      rw [hnd] at x1
      rw [hkd] at x0
      obtain ⟨Ao, co, rfl, _, _, _⟩ := hO.form
      have b1 : (i : Int) < (n : Int) := by omega
      have HIN := Lib.hid hin; have HO := Lib.hid hO; have HLG := Lib.hid hlog; have HLS := Lib.hid hlast; have HL2 := Lib.hid hlen2; clear hin hO hlog hlast hs1 hr hmr hcv' hsn hnd hkd hk1 hk2 hk3 hlen2 hlt'
      obtain ⟨m, hm⟩ : ∃ m, (logV (rs.take i)).length = m := ⟨_, rfl⟩
      have HM := Lib.hid hm; rw [hm]; clear hm
      go_wp2_with fail
      refine LY.out.mono ?_; rintro e3 w3 ⟨v3, rfl, hO3, h3⟩
      obtain ⟨A3, c3, rfl, _, hs3, _⟩ := hO3.form
      obtain ⟨v4, w4, hrun, hO4, hB4⟩ := run_app_u8 w3 w.heap.size (.slice Ao (logV (rs.take i)).length co) (logV (rs.take i)) LT (HO.out.of h3) A3 c3 hs3 (by have := HL2.out; omega) (Nat.le_trans HIN.out.size h3.size)
      rw [HM.out] at hrun
      have hX4 : Within w w4 := Below.trans (HIN.out.trans h3) hB4
      rw [← HLG.out] at hO4
      have RUN := Lib.hid hrun; have HO4 := Lib.hid hO4; have HX4 := Lib.hid hX4; clear hrun hO4 hX4 hB4 hO3 hs3
      obtain ⟨A4, c4, rfl, _, _, _⟩ := HO4.out.form
      obtain ⟨lt, hlt4⟩ : ∃ m, LT.length = m := ⟨_, rfl⟩
      rw [hlt4] at RUN ⊢
      clear hlt4
      go_wp2_with (at_builtin; refine wpList_append_run rfl (.tmp 32) (.tmp 33) 28 rfl _ _ rfl rfl RUN.out ?_)
      go_roundw
      case rel => exact ⟨i + 1, hlt, by go_num, by rw [HLS.out], HO4.out, HX4.out⟩
      case measure => simp [intOf]; omega
    · obtain rfl : i = n := by omega
      rw [← HN.out, List.take_length] at hO
      obtain ⟨Ao, co, rfl, _, _, _⟩ := hO.form
      have HO := Lib.hid hO; have HIN := Lib.hid hin; clear hO hin
      go_wp2
      go_ret
      exact ⟨_, rfl, HO.out, HIN.out⟩
end Go.Proofs.YtpmjlaiafgbjgaaGreatDoor
end

section
namespace Go.Proofs.YtpmjlaiafgbjgaaGreatDoor
open Go.RowKit
def RecG (w : World) (A : Option Addr) (rs : List IRec) : Prop := ∀ (i : Nat) r, rs[i]? = some r → ∃ ad Dv cv, A = some ad ∧ ad.block < w.heap.size ∧ w.cell? (ad.add (i * 2)) = some (.int .i64 r.1) ∧ w.cell? ⟨(ad.add (i * 2)).block, (ad.add (i * 2)).off + 1, none⟩ = some (.slice Dv r.2.length cv) ∧ r.2.length ≤ cv ∧ SlAt w Dv (u8v r.2)
theorem RecG.of {w w' : World} {A : Option Addr} {rs : List IRec} (h : RecG w A rs) (k : Within w w') : RecG w' A rs := fun i r hi => by
  obtain ⟨ad, Dv, cv, h1, h2, h3, h4, h5, h6⟩ := h i r hi
  exact ⟨ad, Dv, cv, h1, Nat.lt_of_lt_of_le h2 k.size, (k.cell (p := ad.add (i * 2)) (by rw [add_block]; exact h2)).trans h3, (k.cell (p := ⟨(ad.add (i * 2)).block, (ad.add (i * 2)).off + 1, none⟩) (by rw [add_block]; exact h2)).trans h4, h5, h6.of k⟩
theorem RecAt.g {w : World} {D : Nat → Prop} {A : Option Addr} {ls : List IRec} (h : RecAt w D A ls) : RecG w A ls := fun i r hi => by
  obtain ⟨ad, Dv, cv, h1, h2, h3, h4, h5, h6, _⟩ := h.cells hi
  exact ⟨ad, Dv, cv, h1, h2, h3, h4, h5, h6⟩
theorem RecB.g {w : World} {A : Option Addr} {ls : List IRec} (h : RecB w A ls) : RecG w A ls := fun i r hi => by
  obtain ⟨g, Dv, cv, h1, h2, h3, h4, h5, h6, _⟩ := h i r hi
  refine ⟨⟨g, 0, none⟩, Dv, cv, h1, h2, ?_, ?_, h5, h6⟩
  · rw [add_at]; exact h3
  · rw [add_at]; exact h4
theorem RecG.drop {w : World} {ad : Addr} {rs : List IRec} (h : RecG w (some ad) rs) (k : Nat) : RecG w (some (ad.add (k * 2))) (rs.drop k) := fun i r hi => by
  rw [List.getElem?_drop] at hi
  obtain ⟨ad', Dv, cv, h1, h2, h3, h4, h5, h6⟩ := h _ _ hi
  obtain rfl := Option.some.inj h1
  have e : (ad.add (k * 2)).add (i * 2) = ad.add ((k + i) * 2) := by rw [add_add]; congr 1; omega
  exact ⟨_, Dv, cv, rfl, by rw [add_block]; exact h2, by rw [e]; exact h3, by rw [e]; exact h4, h5, h6⟩
theorem RecG.take {w : World} {A : Option Addr} {rs : List IRec} (h : RecG w A rs) (k : Nat) : RecG w A (rs.take k) := fun i r hi => by
  rw [List.getElem?_take] at hi
  split at hi
  · exact h _ _ hi
  · cases hi
theorem RecG.nil {w : World} {A : Option Addr} : RecG w A [] := fun i r h => by simp at h
theorem RecG.one (w : World) (r : IRec) (Dv : Option Addr) (cv : Nat) (E : TypeId) (hc : r.2.length ≤ cv) (hs : SlAt w Dv (u8v r.2)) : RecG (w.alloc (.cells #[.int .i64 r.1, .slice Dv r.2.length cv] E)) (some ⟨w.heap.size, 0, none⟩) [r] := fun i q hq => by
  match i, hq with
  | 0, hq =>
    obtain rfl : r = q := Option.some.inj hq
    refine ⟨⟨w.heap.size, 0, none⟩, Dv, cv, rfl, by simp, ?_, ?_, hc, hs.of ((Within.refl w).alloc _)⟩
    · rw [add_at]; simp
    · rw [add_at]; simp
  | i + 1, hq => simp at hq
set_option maxRecDepth 100000 in
set_option maxHeartbeats 1000000 in
theorem Rsame22_at (A B : Option Addr) (c d : Nat) (rs : List IRec) (hl : rs.length ≤ 1152921504606846976) (w : World) (h1 : RecG w A rs) (h2 : RecG w B rs) : Calls Tryz.prog 22 #[.slice A rs.length c, .slice B rs.length d] w fun e w' => e = .returned (.bool true) ∧ Within w w' := by
  have H1 := Lib.hid h1; have H2 := Lib.hid h2; clear h1 h2
  go_enter Tryz.func22, Tryz.ntmps22
  go_wp2
  go_loopw [5] (fun iv wr => ∃ i : Nat, i ≤ rs.length ∧ iv = .int .i64 (i : Int) ∧ Within w wr) (fun iv _ => rs.length - (intOf iv).toNat)
  case atStart => exact ⟨0, by omega, rfl, Within.refl w⟩
  case round =>
    obtain ⟨i, hi, rfl, hin⟩ := hrel
    by_cases hlt : i < rs.length
    · have hget : rs[i]? = some rs[i] := List.getElem?_eq_getElem hlt
      obtain ⟨r, hr⟩ : ∃ r, r = rs[i] := ⟨_, rfl⟩
      rw [← hr] at hget
      clear hr
      obtain ⟨ad1, Dv, cv, rfl, l1, x0, x1, _, hs1⟩ := (H1.out.of hin) i r hget
      obtain ⟨ad2, Ev, dv, rfl, l2, y0, y1, _, hs2⟩ := (H2.out.of hin) i r hget
      have HS1 := Lib.hid hs1; have HS2 := Lib.hid hs2; have HIN := Lib.hid hin; clear hs1 hs2 hin hget
      have b1 : (i : Int) < (rs.length : Int) := by omega
      have en : (r.1 != r.1) = false := by simp
      obtain ⟨s, hs⟩ : ∃ s, s = strB r.2 := ⟨_, rfl⟩
      have ST : Hid (∀ W A c, SlAt W A (u8v r.2) → (convert 28 9 (.slice A r.2.length c)).run Tryz.prog W = .ok (.string s) W) := Lib.hid (fun W A c h => by rw [hs]; exact run_str A c r.2 W h)
      have es : (s.toList != s.toList) = false := by simp
      clear hs
      go_wp2_with fail
      refine wp_region_schG (fun W => W.cell? (ad1.add (i * 2)) = some (.int .i64 r.1) ∧ W.cell? ⟨(ad1.add (i * 2)).block, (ad1.add (i * 2)).off + 1, none⟩ = some (.slice Dv r.2.length cv) ∧ W.cell? (ad2.add (i * 2)) = some (.int .i64 r.1) ∧ W.cell? ⟨(ad2.add (i * 2)).block, (ad2.add (i * 2)).off + 1, none⟩ = some (.slice Ev r.2.length dv) ∧ ad1.block < W.heap.size ∧ ad2.block < W.heap.size ∧ SlAt W Dv (u8v r.2) ∧ SlAt W Ev (u8v r.2) ∧ Within w W) 25 (.firm 0 (.firm 1 (.firm 2 (.firm 3 (.firm 4 (.firm 5 (.firm 6 (.firm 7 (.firm 8 (.firm 9 (.firm 10 (.firm 11 (.firm 12 (.firm 13 (.firm 14 (.firm 15 (.firm 16 (.firm 17 (.firm 18 (.firm 19 (.firm 20 (.firm 21 (.firm 22 (.firm 23 (.firm 24 (.one 25 .nil)))))))))))))))))))))))))) (by kernel_rfl) (by kernel_rfl) ⟨x0, x1, y0, y1, l1, l2, HS1.out, HS2.out, HIN.out⟩ ?_
      rintro w0 ⟨k0, k1, m0, m1, lg1, lg2, hsa0, hsb0, hw0⟩
      try simp only [Act.put, List.setIfInBounds_toArray, List.set_cons_zero, List.set_cons_succ]
      iterate 12
        apply sch_firm rfl rfl (by repeat (first | with_reducible exact Within.refl _ | with_reducible assumption | with_reducible refine Within.alloc ?_ _ | with_reducible refine Within.drew ?_ | with_reducible refine Within.drewN ?_ _ | with_reducible refine Within.setCell ?_ (by first | (simp; done) | (simp; omega)) _ | with_reducible refine Within.trans ?_ (by assumption)))
        · intro wq hq
          have hcq := hq.cells
          have st1 := ST.out wq Dv cv (hsa0.of hq)
          have st2 := ST.out wq Ev dv (hsb0.of hq)
          have gx0 := (hq.cell (p := ad1.add (i * 2)) (by rw [add_block]; exact lg1)).trans k0
          have gx1 := (hq.cell (p := ⟨(ad1.add (i * 2)).block, (ad1.add (i * 2)).off + 1, none⟩) (by rw [add_block]; exact lg1)).trans k1
          have gx2 := Nat.lt_of_lt_of_le lg1 hq.size
          have gy0 := (hq.cell (p := ad2.add (i * 2)) (by rw [add_block]; exact lg2)).trans m0
          have gy1 := (hq.cell (p := ⟨(ad2.add (i * 2)).block, (ad2.add (i * 2)).off + 1, none⟩) (by rw [add_block]; exact lg2)).trans m1
          have gy2 := Nat.lt_of_lt_of_le lg2 hq.size
          clear hq
          go_simp
          rfl
        try simp only [Act.put, List.setIfInBounds_toArray, List.set_cons_zero, List.set_cons_succ]
      iterate 13
        apply sch_want rfl (by first | rfl | decide | (simp [Region.wanted, yielded]; done)) (by repeat (first | with_reducible exact Within.refl _ | with_reducible assumption | with_reducible refine Within.alloc ?_ _ | with_reducible refine Within.drew ?_ | with_reducible refine Within.drewN ?_ _ | with_reducible refine Within.setCell ?_ (by first | (simp; done) | (simp; omega)) _ | with_reducible refine Within.trans ?_ (by assumption)))
        · intro wq hq
          have hcq := hq.cells
          have st1 := ST.out wq Dv cv (hsa0.of hq)
          have st2 := ST.out wq Ev dv (hsb0.of hq)
          have gx0 := (hq.cell (p := ad1.add (i * 2)) (by rw [add_block]; exact lg1)).trans k0
          have gx1 := (hq.cell (p := ⟨(ad1.add (i * 2)).block, (ad1.add (i * 2)).off + 1, none⟩) (by rw [add_block]; exact lg1)).trans k1
          have gx2 := Nat.lt_of_lt_of_le lg1 hq.size
          have gy0 := (hq.cell (p := ad2.add (i * 2)) (by rw [add_block]; exact lg2)).trans m0
          have gy1 := (hq.cell (p := ⟨(ad2.add (i * 2)).block, (ad2.add (i * 2)).off + 1, none⟩) (by rw [add_block]; exact lg2)).trans m1
          have gy2 := Nat.lt_of_lt_of_le lg2 hq.size
          clear hq
          go_simp
          rfl
        try simp only [Act.put, List.setIfInBounds_toArray, List.set_cons_zero, List.set_cons_succ]
      refine sch_one rfl rfl (fun K hK => ?_)
      go_simp
      refine hK _ _ (fun h => absurd h (by decide)) ?_
      clear hK K
      try simp only [Act.put, List.setIfInBounds_toArray, List.set_cons_zero, List.set_cons_succ]
      refine sch_nil ?_
      have hw4 : Within w w0.drew := hw0.drew
      clear hw0
      go_wp2
      go_roundw
      case rel => exact ⟨i + 1, hlt, by go_num, hw4⟩
      case measure => simp [intOf]; omega
    · obtain rfl : i = rs.length := by omega
      go_wp2
      go_ret
      exact ⟨rfl, hin⟩
end Go.Proofs.YtpmjlaiafgbjgaaGreatDoor
end
