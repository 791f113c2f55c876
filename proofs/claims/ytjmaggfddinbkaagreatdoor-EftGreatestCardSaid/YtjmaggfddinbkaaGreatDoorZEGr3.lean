/- What the law's walk rests on, part 3: contracts of functions and plain facts. -/
import Derived.Test.YtjmaggfddinbkaaGreatDoorRows
import Derived.WalkKit
import Derived.WalkSpells
import Derived.WalkLawsBesides
import Derived.BigQuiet
import Derived.Lib.Hide
import Derived.Deep.OwnRows
import Derived.OwnWalk
import Derived.LoopTactic
import Derived.Outline
import Derived.IntWalk
import Derived.OrdersHeld
import Derived.StillTail
import Derived.Deep.RegionHeld3
import Derived.Maps.AppendAt
import Derived.Deep.QuietTactic
import Derived.Deep.DeepCutAuto
import Derived.Shelf.Bits.Mul64
import Derived.Laws.Externs
import Derived.Deep.RegionWith
import Ieee.Arith
import Derived.Lib.TrailingZeros
import Derived.Lib.BitFns
import Derived.Lib.Strings
import Derived.Lib.Slices
import Derived.Lib.Small
import Derived.Lib.Walk
import Derived.Deep.AppendLies
import Derived.Deep.Draws
import Derived.Laws.OwnMore
import Derived.ProofKit
import Derived.OpenShut
import Derived.ShutString
import Derived.ChangeOld
import Derived.Below
import Derived.Deep.DeepHandedRow
import Derived.Lib.LaidTab
import Derived.ChangeSlices
import Derived.Carry
import Derived.SizedLaws
import Derived.Deep.Strs
import Derived.Lib.SmallJoins
import Derived.Test.YtjmaggfddinbkaaGreatDoorZEGr2
set_option linter.unusedVariables false
set_option linter.unusedSimpArgs false
section
namespace Go.Proofs.YtjmaggfddinbkaaGreatDoor
open Go.RowKit
theorem finD_is {x : Nat} (h : x < 18446744073709551616) : finD x = finW x := by
  unfold finD finW classD classOf expD fracD canonD nanD
  refine decide_eq_decide.2 ?_
  by_cases hn : 9218868437227405312 < x % 9223372036854775808
  · rw [decide_eq_true hn, if_pos rfl]
    simp
    omega
  · rw [decide_eq_false hn, if_neg Bool.false_ne_true]
    split
    · omega
    split
    · omega
    split
    · omega
    split <;> omega
theorem fin_sub (x : Nat) (w : World) : (FloatKind.f64.format.order (arF .sub x x w) 0 == some .eq) = finW x := by
  unfold arF finW
  obtain ⟨h1, h2⟩ := sub_self_zero x
  by_cases hf : x % 9223372036854775808 < 9218868437227405312
  · rw [h1 hf, decide_eq_true hf]
    show (FloatKind.f64.format.order 0 0 == some .eq) = true
    decide
  · rw [h2 hf, decide_eq_false hf]
    exact c_nan (.inl (cut_nan x x _).1) _
def LayP (w : World) (p : Nat) (L : List (Option Nat)) (ov : Bool) : Prop :=
  ∃ sv ls, w.cell? ⟨p, 0, none⟩ = some sv ∧ w.cell? ⟨p, 1, none⟩ = some (.bool ov) ∧ (∀ i, w.frozen? ⟨p, i, none⟩ = false) ∧ OwnF w (p + 1) sv ls ∧ Words64 ls ∧ ls.map fv = L
theorem LayP.lt {w : World} {p : Nat} {L : List (Option Nat)} {ov : Bool} (h : LayP w p L ov) : p < w.heap.size := by
  obtain ⟨sv, ls, h0, _⟩ := h
  exact World.block_lt_of_cell? _ _ h0
theorem LayP.of {w w' : World} {p : Nat} {L : List (Option Nat)} {ov : Bool} (h : LayP w p L ov) (k : Within w w') : LayP w' p L ov := by
  have hl := h.lt
  obtain ⟨sv, ls, h0, h1, hf, ho, hw, hm⟩ := h
  exact ⟨sv, ls, (k.cells _ _ hl).trans h0, (k.cells _ _ hl).trans h1, fun i => (k.frozens _ i hl).trans (hf i), ho.of k, hw, hm⟩
theorem LayP.see {w : World} {p : Nat} {L : List (Option Nat)} {ov : Bool} (h : LayP w p L ov) (b : Bool) : LayP (w.setCell ⟨p, 1, none⟩ (.bool b)) p L b := by
  obtain ⟨sv, ls, h0, h1, hf, ho, hw, hm⟩ := h
  have hl := World.block_lt_of_cell? _ _ h0
  exact ⟨sv, ls, by go_simp, by go_simp, fun i => by go_simp, ho.set (Nat.lt_succ_self p) _, hw, hm⟩
def ResF (W : World) (L : List (Option Nat)) (er : Int) (e : Ending) (w' : World) : Prop := ∃ sv ls, e = .returned (.tuple #[sv, .int .i64 er]) ∧ OwnF w' W.heap.size sv ls ∧ Words64 ls ∧ ls.map fv = L ∧ Within W w'
theorem below_within {W w w' : World} {p : Nat} (h : Within W w) (k : Below p w w') (hp : W.heap.size ≤ p) : Within W w' := Below.trans h (Below.mono k hp)
set_option maxRecDepth 100000 in
set_option maxHeartbeats 600000 in
theorem efinite_any (x : Nat) (w : World) : Calls Tryz.prog 66 #[.float .f64 x] w fun e w' => e = .returned (.bool (finW x)) ∧ Within w w' := by
  have hsub := fun t x y w => run_ar .sub (.inl rfl) t x y Tryz.prog w
  have hf := fun w => fin_sub x w
  go_enter Tryz.func66, Tryz.ntmps66
  go_wp2
  go_ret
  exact ⟨rfl, (by repeat (first | with_reducible exact Within.refl _ | with_reducible assumption | with_reducible refine arW_within ?_ _ _ _ | with_reducible refine Within.alloc ?_ _ | with_reducible refine Within.drew ?_ | with_reducible refine Within.trans ?_ (by assumption)))⟩
set_option maxRecDepth 100000 in
set_option maxHeartbeats 600000 in
theorem see_ov (p a b : Nat) (L : List (Option Nat)) (w : World) (h : LayP w p L true) : Calls Tryz.prog 89 #[.pointer (some ⟨p, 0, none⟩), .float .f64 a, .float .f64 b] w fun e w' => e = .returned (.tuple #[.float .f64 a, .float .f64 b]) ∧ LayP w' p L (true || !finW a || !finW b) ∧ Below p w w' := by
  have hL0 := h.lt
  have hLL := Lib.hid h
  obtain ⟨sv, ls, s0, t0, u0, _⟩ := h
  have FI := Lib.hid (fun x w => efinite_any x w)
  have e : (true || !finW a || !finW b) = true := rfl
  rw [e]
  clear e
  go_enter Tryz.func89, Tryz.ntmps89
  go_wp2
  go_ret2
  exact ⟨rfl, hLL.out.see true, Below.setCell (p := ⟨p, 1, none⟩) (Below.refl _ _) (Nat.le_refl p) _⟩
set_option maxRecDepth 100000 in
set_option maxHeartbeats 600000 in
theorem see_a (p a b : Nat) (L : List (Option Nat)) (ha : finW a = false) (w : World) (h : LayP w p L false) : Calls Tryz.prog 89 #[.pointer (some ⟨p, 0, none⟩), .float .f64 a, .float .f64 b] w fun e w' => e = .returned (.tuple #[.float .f64 a, .float .f64 b]) ∧ LayP w' p L (false || !finW a || !finW b) ∧ Below p w w' := by
  have hL0 := h.lt
  have hLL := Lib.hid h
  obtain ⟨sv, ls, s0, t0, u0, _⟩ := h
  have FI := Lib.hid (fun x w => efinite_any x w)
  have e : (false || !finW a || !finW b) = true := by rw [ha]; rfl
  rw [e]
  clear e
  have HA := Lib.hid ha; clear ha
  go_enter Tryz.func89, Tryz.ntmps89
  go_wp2_with fail
  refine (FI.out a _).mono ?_; rintro e1 w1 ⟨rfl, hb1⟩
  rw [HA.out]
  have hL1 := hLL.out.of hb1
  obtain ⟨sv1, ls1, s1, t1, u1, _⟩ := hL1
  have z1 : p < w1.heap.size := Nat.lt_of_lt_of_le hL0 hb1.sizes
  have hL1 := hLL.out.of hb1
  go_wp2
  go_ret2
  exact ⟨rfl, (hL1).see true, Below.setCell (p := ⟨p, 1, none⟩) (Below.mono hb1 (Nat.le_of_lt hL0)) (Nat.le_refl p) _⟩
set_option maxRecDepth 100000 in
set_option maxHeartbeats 600000 in
theorem see_b (p a b : Nat) (L : List (Option Nat)) (ha : finW a = true) (w : World) (h : LayP w p L false) : Calls Tryz.prog 89 #[.pointer (some ⟨p, 0, none⟩), .float .f64 a, .float .f64 b] w fun e w' => e = .returned (.tuple #[.float .f64 a, .float .f64 b]) ∧ LayP w' p L (false || !finW a || !finW b) ∧ Below p w w' := by
  have hL0 := h.lt
  have hLL := Lib.hid h
  obtain ⟨sv, ls, s0, t0, u0, _⟩ := h
  have FI := Lib.hid (fun x w => efinite_any x w)
  have e : (false || !finW a || !finW b) = !finW b := by rw [ha]; rfl
  rw [e]
  clear e
  have HA := Lib.hid ha; clear ha
  go_enter Tryz.func89, Tryz.ntmps89
  go_wp2_with fail
  refine (FI.out a _).mono ?_; rintro e1 w1 ⟨rfl, hb1⟩
  rw [HA.out]
  have hL1 := hLL.out.of hb1
  obtain ⟨sv1, ls1, s1, t1, u1, _⟩ := hL1
  have z1 : p < w1.heap.size := Nat.lt_of_lt_of_le hL0 hb1.sizes
  have hL1 := hLL.out.of hb1
  go_wp2_with fail
  refine (FI.out b _).mono ?_; rintro e2 w2 ⟨rfl, hb2'⟩
  have hb2 := hb1.trans hb2'
  have hL2 := hLL.out.of hb2
  obtain ⟨sv2, ls2, s2, t2, u2, _⟩ := hL2
  have z2 : p < w2.heap.size := Nat.lt_of_lt_of_le hL0 hb2.sizes
  have hL2 := hLL.out.of hb2
  go_wp2
  go_ret2
  exact ⟨rfl, (hL2).see (!finW b), Below.setCell (p := ⟨p, 1, none⟩) (Below.mono hb2 (Nat.le_of_lt hL0)) (Nat.le_refl p) _⟩
theorem see_any (p a b : Nat) (L : List (Option Nat)) (ov : Bool) (w : World) (h : LayP w p L ov) : Calls Tryz.prog 89 #[.pointer (some ⟨p, 0, none⟩), .float .f64 a, .float .f64 b] w fun e w' => e = .returned (.tuple #[.float .f64 a, .float .f64 b]) ∧ LayP w' p L (ov || !finW a || !finW b) ∧ Below p w w' := by
  cases ov
  · cases ha : finW a
    · have := see_a p a b L ha w h
      rwa [ha] at this
    · have := see_b p a b L ha w h
      rwa [ha] at this
  · exact see_ov p a b L w h
theorem SlAt.two (w : World) (u v : Value) (E : TypeId) : SlAt (w.alloc (.cells #[u, v] E)) (some ⟨w.heap.size, 0, none⟩) [u, v] := fun _ => by
  refine ⟨_, rfl, by simp, fun j x hj => ?_⟩
  match j, hj with
  | 0, hj =>
    have e : u = x := by simpa using hj
    subst e
    rw [add_nought, World.cell?_alloc_at _ _ _ _ rfl]; rfl
  | 1, hj =>
    have e : v = x := by simpa using hj
    subst e
    rw [show (Addr.add ⟨w.heap.size, 0, none⟩ 1) = ⟨w.heap.size, 1, none⟩ from rfl, World.cell?_alloc_at _ _ _ _ rfl]; rfl
  | j + 2, hj => simp at hj
set_option maxRecDepth 100000 in
set_option maxHeartbeats 600000 in
theorem elay_no (p x : Nat) (L : List (Option Nat)) (ov : Bool) (hx : x % 9223372036854775808 = 0) (w : World) (h : LayP w p L ov) : Calls Tryz.prog 91 #[.pointer (some ⟨p, 0, none⟩), .float .f64 x] w fun e w' => e = .returned (.tuple #[]) ∧ LayP w' p (layV L (fv x)) ov ∧ Below p w w' := by
  have hz : (FloatKind.f64.format.order x 0 == some .eq) = true := by rw [c_zero, decide_eq_true hx]
  have hne : (FloatKind.f64.format.order x 0 != some .eq) = false := by simp [bne, hz]
  have hl : layV L (fv x) = L := by unfold layV; rw [nzV_fv, decide_eq_false (fun g => g hx)]; rfl
  rw [hl]
  clear hx hl
  have hLL := Lib.hid h; clear h
  go_enter Tryz.func91, Tryz.ntmps91
  go_wp2
  go_end0
  exact ⟨rfl, hLL.out, Below.refl _ _⟩
set_option maxRecDepth 100000 in
set_option maxHeartbeats 600000 in
theorem elay_yes (p x : Nat) (L : List (Option Nat)) (ov : Bool) (hx : ¬ x % 9223372036854775808 = 0) (hx2 : x < 18446744073709551616) (hn : L.length ≤ 1000000) (w : World) (h : LayP w p L ov) : Calls Tryz.prog 91 #[.pointer (some ⟨p, 0, none⟩), .float .f64 x] w fun e w' => e = .returned (.tuple #[]) ∧ LayP w' p (layV L (fv x)) ov ∧ Below p w w' := by
  have hz : (FloatKind.f64.format.order x 0 == some .eq) = false := by rw [c_zero, decide_eq_false hx]
  have hne : (FloatKind.f64.format.order x 0 != some .eq) = true := by simp [bne, hz]
  have hl : layV L (fv x) = L ++ [fv x] := by unfold layV; rw [nzV_fv, decide_eq_true hx]; rfl
  rw [hl]
  clear hx hl
  have hL0 := h.lt
  obtain ⟨sv, ls, s0, t0, u0, hown, hw, hm⟩ := h
  obtain ⟨A, c, rfl, _, _, _⟩ := hown.form
  have hlen : ls.length = L.length := by rw [← hm, List.length_map]
  obtain ⟨v', w', hrun, hown', hbl'⟩ := run_app_float w (p + 1) _ _ x hown (by omega) hL0
  obtain ⟨A2, c2, rfl, _, _, _⟩ := hown'.form
  have RUN := Lib.hid hrun; have HOW := Lib.hid hown'
  obtain ⟨n2, hn2⟩ : ∃ n2, n2 = (ls ++ [x]).length := ⟨_, rfl⟩
  rw [← hn2] at RUN HOW
  clear hn2
  have HW := Lib.hid hw; have HM := Lib.hid hm
  clear hrun hown' hown hw hm hlen hn
  have s1 : w'.cell? ⟨p, 1, none⟩ = some (.bool ov) := (hbl'.cell (p := ⟨p, 1, none⟩) (Nat.lt_succ_self p)).trans t0
  have s2 : ∀ i, w'.frozen? ⟨p, i, none⟩ = false := fun i => (hbl'.frozen (p := ⟨p, i, none⟩) (Nat.lt_succ_self p)).trans (u0 i)
  have s3 : w'.cell? ⟨p, 0, none⟩ = some (.slice A ls.length c) := (hbl'.cell (p := ⟨p, 0, none⟩) (Nat.lt_succ_self p)).trans s0
  have s4 : p < w'.heap.size := World.block_lt_of_cell? _ _ s3
  obtain ⟨n, hn⟩ : ∃ n, n = ls.length := ⟨_, rfl⟩
  rw [← hn] at s0 s3 RUN
  clear hn
  go_enter Tryz.func91, Tryz.ntmps91
  go_wp2_with (at_builtin; refine wpList_append_run rfl (.tmp 10) (.tmp 12) 24 rfl _ _ rfl rfl RUN.out ?_)
  go_end0
  exact ⟨rfl, ⟨_, ls ++ [x], by go_simp, by go_simp, fun i => by go_simp, (HOW.out).set (Nat.lt_succ_self p) _, (fun y hy => by rcases List.mem_append.1 hy with hy | hy; exact HW.out y hy; rcases List.mem_singleton.1 hy with rfl; exact hx2), by rw [List.map_append, HM.out]; rfl⟩, Below.setCell (p := ⟨p, 0, none⟩) (Below.mono hbl' (Nat.le_succ p)) (Nat.le_refl p) _⟩
theorem elay_any (p x : Nat) (L : List (Option Nat)) (ov : Bool) (hx : x < 18446744073709551616) (hn : L.length ≤ 1000000) (w : World) (h : LayP w p L ov) : Calls Tryz.prog 91 #[.pointer (some ⟨p, 0, none⟩), .float .f64 x] w fun e w' => e = .returned (.tuple #[]) ∧ LayP w' p (layV L (fv x)) ov ∧ Below p w w' := by
  by_cases h0 : x % 9223372036854775808 = 0
  · exact elay_no p x L ov h0 w h
  · exact elay_yes p x L ov h0 hx hn w h
def endE (L : List (Option Nat)) (ov : Bool) : Int := if ov then 5 else if 64 < L.length then 2 else 0
set_option maxRecDepth 100000 in
set_option maxHeartbeats 600000 in
theorem eend_ov (p : Nat) (L : List (Option Nat)) (w : World) (h : LayP w p L true) : Calls Tryz.prog 92 #[.pointer (some ⟨p, 0, none⟩)] w fun e w' => (∃ sv ls, e = .returned (.tuple #[sv, .int .i64 5]) ∧ OwnF w' (p + 1) sv ls ∧ Words64 ls ∧ ls.map fv = []) ∧ w = w' := by
  obtain ⟨sv, ls, s0, t0, u0, _⟩ := h
  go_enter Tryz.func92, Tryz.ntmps92
  go_wp2
  go_ret2
  exact ⟨⟨_, [], rfl, OwnF.nil_ _ _, (fun x hx => by cases hx), rfl⟩, rfl⟩
set_option maxRecDepth 100000 in
set_option maxHeartbeats 600000 in
theorem eend_long (p : Nat) (L : List (Option Nat)) (hn : 64 < L.length) (w : World) (h : LayP w p L false) : Calls Tryz.prog 92 #[.pointer (some ⟨p, 0, none⟩)] w fun e w' => (∃ sv ls, e = .returned (.tuple #[sv, .int .i64 2]) ∧ OwnF w' (p + 1) sv ls ∧ Words64 ls ∧ ls.map fv = []) ∧ w = w' := by
  obtain ⟨sv, ls, s0, t0, u0, hown, hw, hm⟩ := h
  obtain ⟨A, c, rfl, _, _, _⟩ := hown.form
  have hlen : ls.length = L.length := by rw [← hm, List.length_map]
  obtain ⟨n, hn2⟩ : ∃ n, n = ls.length := ⟨_, rfl⟩
  rw [← hn2] at s0
  have d1 : decide ((n : Int) > 64) = true := decide_eq_true (by omega)
  clear hown hw hm hlen hn hn2
  go_enter Tryz.func92, Tryz.ntmps92
  go_wp2
  go_ret2
  exact ⟨⟨_, [], rfl, OwnF.nil_ _ _, (fun x hx => by cases hx), rfl⟩, rfl⟩
set_option maxRecDepth 100000 in
set_option maxHeartbeats 600000 in
theorem eend_fine (p : Nat) (L : List (Option Nat)) (hn : L.length ≤ 64) (w : World) (h : LayP w p L false) : Calls Tryz.prog 92 #[.pointer (some ⟨p, 0, none⟩)] w fun e w' => (∃ sv ls, e = .returned (.tuple #[sv, .int .i64 0]) ∧ OwnF w' (p + 1) sv ls ∧ Words64 ls ∧ ls.map fv = L) ∧ w = w' := by
  obtain ⟨sv, ls, s0, t0, u0, hown, hw, hm⟩ := h
  obtain ⟨A, c, rfl, _, _, _⟩ := hown.form
  have hlen : ls.length = L.length := by rw [← hm, List.length_map]
  have HO := Lib.hid hown; have HW := Lib.hid hw; have HM := Lib.hid hm
  obtain ⟨n, hn2⟩ : ∃ n, n = ls.length := ⟨_, rfl⟩
  rw [← hn2] at s0 HO
  have d1 : decide ((n : Int) > 64) = false := decide_eq_false (by omega)
  clear hown hw hm hlen hn hn2
  go_enter Tryz.func92, Tryz.ntmps92
  go_wp2
  go_ret2
  exact ⟨⟨_, ls, rfl, HO.out, HW.out, HM.out⟩, rfl⟩
theorem eend_any (p : Nat) (L : List (Option Nat)) (ov : Bool) (w : World) (h : LayP w p L ov) : Calls Tryz.prog 92 #[.pointer (some ⟨p, 0, none⟩)] w fun e w' => (∃ sv ls, e = .returned (.tuple #[sv, .int .i64 (endE L ov)]) ∧ OwnF w' (p + 1) sv ls ∧ Words64 ls ∧ ls.map fv = (if endE L ov = 0 then L else [])) ∧ w = w' := by
  unfold endE
  cases ov
  · rw [if_neg Bool.false_ne_true]
    by_cases hn : 64 < L.length
    · rw [if_pos hn, if_neg (by decide)]; exact eend_long p L hn w h
    · rw [if_neg hn, if_pos rfl]; exact eend_fine p L (by omega) w h
  · rw [if_pos rfl, if_neg (by decide)]; exact eend_ov p L w h
end Go.Proofs.YtjmaggfddinbkaaGreatDoor
end

section
namespace Go.Proofs.YtjmaggfddinbkaaGreatDoor
open Go.RowKit
theorem LayP.made (w : World) (T : TypeId) : LayP (w.alloc (.cells #[.slice none 0 0, .bool false] T)) w.heap.size [] false := by
  refine ⟨.slice none 0 0, [], ?_, ?_, fun i => ?_, OwnF.nil_ _ _, (fun x hx => by cases hx), rfl⟩
  · rw [World.cell?_alloc_at _ _ _ _ rfl]; rfl
  · rw [World.cell?_alloc_at _ _ _ _ rfl]; rfl
  · simp
def gs (es : List Nat) (b k : Nat) : Lay := ((es.map fv).take k).foldl growStep ⟨fv b, [], false⟩
theorem gs_zero (es : List Nat) (b : Nat) : gs es b 0 = ⟨fv b, [], false⟩ := by unfold gs; rw [List.take_zero]; rfl
theorem gs_all (es : List Nat) (b : Nat) : gs es b es.length = growSt (es.map fv) (fv b) := by
  unfold gs growSt
  rw [List.take_of_length_le (by rw [List.length_map]; exact Nat.le_refl _)]
theorem getD_fv (es : List Nat) {k : Nat} (h : k < es.length) : (es.map fv).getD k none = fv (es.getD k 0) := by
  simp [List.getD, h]
theorem gs_succ (es : List Nat) (b : Nat) {k : Nat} (h : k < es.length) : gs es b (k + 1) = growStep (gs es b k) (fv (es.getD k 0)) := by
  unfold gs
  rw [fold_take growStep _ (es.map fv) none (by rw [List.length_map]; exact h), getD_fv es h]
theorem gs_len (es : List Nat) (b k : Nat) : (gs es b k).l.length ≤ es.length := by
  have := growSt_len ((es.map fv).take k) (fv b)
  have h2 : ((es.map fv).take k).length ≤ es.length := by rw [List.length_take, List.length_map]; exact Nat.min_le_right _ _
  exact Nat.le_trans this h2
set_option maxRecDepth 100000 in
set_option maxHeartbeats 600000 in
theorem egrow_any (A : Option Addr) (c : Nat) (es : List Nat) (b : Nat) (hw : Words64 es) (hl : es.length ≤ 100000) (hb : b < 18446744073709551616) (w : World) (hr : SlAt w A (f64v es)) : Calls Tryz.prog 67 #[.slice A es.length c, .float .f64 b] w (ResF w (growSt (es.map fv) (fv b)).out (growSt (es.map fv) (fv b)).err) := by
  have HW := Lib.hid hw; have HR := Lib.hid hr; have HL := Lib.hid hl; have HB := Lib.hid hb; have hl2 : es.length ≤ 1152921504606846976 := by omega
  clear hw hr hl hb
  have LAY0 := LayP.made w 94
  go_enter Tryz.func67, Tryz.ntmps67
  go_wp2
  go_loopw [7, 15] (fun qv iv wr => ∃ k q : Nat, k ≤ es.length ∧ iv = .int .i64 (k : Int) ∧ qv = .float .f64 q ∧ q < 18446744073709551616 ∧ fv q = (gs es b k).q ∧ LayP wr w.heap.size (gs es b k).l (gs es b k).ov ∧ Within w wr) (fun _ iv _ => es.length - (intOf iv).toNat)
  case atStart => exact ⟨0, b, Nat.zero_le _, rfl, rfl, HB.out, by rw [gs_zero], by rw [gs_zero]; exact LAY0, (by repeat (first | with_reducible exact Within.refl _ | with_reducible assumption | with_reducible refine arW_within ?_ _ _ _ | with_reducible refine Within.alloc ?_ _ | with_reducible refine Within.drew ?_ | with_reducible refine Within.trans ?_ (by assumption)))⟩
  case round =>
    obtain ⟨k, q, hk, rfl, rfl, hq, vq, hL, hin⟩ := hrel
    have HQ := Lib.hid hq; have VQ := Lib.hid vq; have LL := Lib.hid hL; clear hq vq hL
    by_cases hlt : k < es.length
    · obtain ⟨ad, rfl, hblk, hc⟩ := (HR.out.of hin).at hlt
      obtain ⟨x, hx⟩ : ∃ x, x = es.getD k 0 := ⟨_, rfl⟩
      have hx2 : x < 18446744073709551616 := by rw [hx]; exact HW.out.at hlt
      rw [← hx] at hc
      have HX2 := Lib.hid hx2; clear hx2
      have hnext := gs_succ es b hlt
      rw [← hx] at hnext
      have HN := Lib.hid hnext; clear hnext hx
      have TW := Lib.hid (fun w => etwo_any q x HQ.out HX2.out w)
      have hlen := Nat.le_trans (gs_len es b k) HL.out
      have HLEN := Lib.hid hlen; clear hlen
      go_wp2_with fail
      refine (TW.out _).mono ?_; rintro e1 w1 ⟨s, l, rfl, hs, hl', vs, vl, hb1⟩
      have HS := Lib.hid hs; have HL2 := Lib.hid hl'; have VS := Lib.hid vs; have VL := Lib.hid vl; clear hs hl' vs vl
      have L1 := Lib.hid (LL.out.of hb1)
      go_wp2_with fail
      refine (see_any _ s l _ _ _ L1.out).mono ?_; rintro e2 w2 ⟨rfl, hL2, hb2⟩
      have L2 := Lib.hid hL2; clear hL2
      go_wp2_with fail
      refine (elay_any _ l _ _ HL2.out (Nat.le_trans HLEN.out (by decide)) _ L2.out).mono ?_; rintro e3 w3 ⟨rfl, hL3, hb3⟩
      have hin3 : Within w w3 := below_within (below_within (hin.trans hb1) hb2 (Nat.le_refl _)) hb3 (Nat.le_refl _)
      have L3 := Lib.hid hL3; clear hL3 hb1 hb2 hb3
      go_wp2
      go_roundw
      case rel =>
        refine ⟨k + 1, s, hlt, by go_num, rfl, HS.out, ?_, ?_, hin3⟩
        · rw [HN.out, VS.out, VQ.out]; rfl
        · rw [HN.out]
          have h := L3.out
          rw [VL.out, VQ.out] at h
          have e : ((gs es b k).ov || !finW s || !finW l) = (gs es b k).see (twoS (gs es b k).q (fv x)) (twoL (gs es b k).q (fv x)) := by
            unfold Lay.see; rw [← VQ.out, ← VS.out, ← VL.out, finV_fv, finV_fv]
          rw [e] at h
          exact h
      case measure => simp [intOf]; omega
    · obtain rfl : k = es.length := by omega
      have vq2 := VQ.out
      rw [gs_all] at vq2
      have l0 := LL.out
      rw [gs_all] at l0
      have VQ2 := Lib.hid vq2; have LL2 := Lib.hid l0; clear vq2 l0
      have hlen : (growSt (es.map fv) (fv b)).l.length ≤ 1000000 := Nat.le_trans (growSt_len _ _) (by rw [List.length_map]; exact Nat.le_trans HL.out (by decide))
      have HLEN := Lib.hid hlen; clear hlen
      go_wp2_with fail
      refine (elay_any _ q _ _ HQ.out HLEN.out _ LL2.out).mono ?_; rintro e3 w3 ⟨rfl, hL3, hb3⟩
      rw [VQ2.out] at hL3
      have hin3 : Within w w3 := below_within hin hb3 (Nat.le_refl _)
      have L3 := Lib.hid hL3; clear hL3 hb3
      go_wp2_with fail
      refine (eend_any _ _ _ _ L3.out).mono ?_; rintro e4 w4 ⟨⟨sv, ls, rfl, hown, hw', hm⟩, rfl⟩
      have HO := Lib.hid hown; have HM := Lib.hid hm; have HWW := Lib.hid hw'; clear hown hm hw'
      go_wp2
      go_ret2
      exact ⟨_, ls, rfl, HO.out.less (Nat.le_succ _), HWW.out, HM.out, hin3⟩
end Go.Proofs.YtjmaggfddinbkaaGreatDoor
end

section
namespace Go.Proofs.YtjmaggfddinbkaaGreatDoor
open Go.RowKit
/-! amounts by their parts -/
theorem fin_canon {b : Nat} (h : b % 9223372036854775808 < 9218868437227405312) : canonD b = b := by
  unfold canonD
  rw [if_neg]
  unfold nanD
  simp; omega
theorem fin_exp {b : Nat} (h : b % 9223372036854775808 < 9218868437227405312) : expD b = b % 9223372036854775808 / 4503599627370496 ∧ fracD b = b % 4503599627370496 ∧ expD b < 2047 := by
  unfold expD fracD
  rw [fin_canon h]
  omega
theorem mag_parts {b : Nat} (h : b % 9223372036854775808 < 9218868437227405312) : Fp.mag Ieee.double (b % 9223372036854775808) = mantD b * 2 ^ (lowD b + 1074).toNat := by
  obtain ⟨h1, h2, h3⟩ := fin_exp h
  unfold Fp.mag mantD lowD
  rw [Fp.dB, h2, h1]
  by_cases h0 : b % 9223372036854775808 < 4503599627370496
  · rw [if_pos h0, if_pos (by omega), if_pos (by omega), show (((1 : Nat) : Int) - 1075 + 1074).toNat = 0 from rfl, Nat.pow_zero, Nat.mul_one]
    omega
  · rw [if_neg h0, if_neg (by omega), if_neg (by omega), show (((b % 9223372036854775808 / 4503599627370496 : Nat) : Int) - 1075 + 1074).toNat = b % 9223372036854775808 / 4503599627370496 - 1 by omega]
    congr 1
    omega
theorem lowD_ge (b : Nat) : -1074 ≤ lowD b := by unfold lowD; split <;> omega
theorem mag_odd {b : Nat} (h : b % 9223372036854775808 < 9218868437227405312) : Fp.mag Ieee.double (b % 9223372036854775808) = pMantD b * 2 ^ (pExpD b + 1074).toNat := by
  rw [mag_parts h]
  obtain ⟨_, _, h3⟩ := fin_exp h
  unfold pMantD pExpD
  rw [if_neg (by omega)]
  by_cases h0 : mantD b = 0
  · rw [if_pos (.inr h0), h0, Nat.zero_mul, Nat.zero_div, Nat.zero_mul]
  · rw [if_neg (by omega)]
    obtain ⟨m, e1, e2, e3⟩ := odd_split h0 (by have := mantD_lt b; omega)
    have hl := lowD_ge b
    generalize Lib.ctz 64 (mantD b) = k at *
    rw [show (lowD b + (k : Int) + 1074).toNat = k + (lowD b + 1074).toNat by omega, Nat.pow_add, ← Nat.mul_assoc]
    congr 1
    rw [e2, Nat.mul_div_cancel_left _ (Nat.two_pow_pos k), Nat.mul_comm]
theorem sg_is {b : Nat} (hb : b < 18446744073709551616) : Fp.sg Ieee.double b = decide (9223372036854775808 ≤ b) := by
  unfold Fp.sg
  rw [show Ieee.double.signWeight = 9223372036854775808 by decide +kernel]
  exact decide_eq_decide.2 (by omega)
theorem whole_un {b : Nat} (hb : b < 18446744073709551616) (h : b % 9223372036854775808 < 9218868437227405312) : P64.wholeI b = Fp.un Ieee.double b := by
  obtain ⟨_, _, h3⟩ := fin_exp h
  have hn0 : pNegD b = decide (9223372036854775808 ≤ b) := by
    unfold pNegD negD
    rw [if_neg (by omega), fin_canon h]
  unfold P64.wholeI Fp.un P64.sgv
  rw [hn0, Fp.rg64, mag_odd h]
  have hs := sg_is hb
  rw [hs]
  by_cases hn : 9223372036854775808 ≤ b
  · rw [if_pos (decide_eq_true hn), if_pos (decide_eq_true hn), Int.neg_mul]; simp
  · rw [if_neg (by simpa using hn), if_neg (by simpa using hn)]; simp
theorem top_le {p : Int} (h : 1023 < p) : Fp.dtop ≤ (p + 1074).toNat := by
  have : Fp.dtop = 2098 := rfl
  omega
theorem pExp_hi {b : Nat} (h : b % 9223372036854775808 < 9218868437227405312) : pExpD b ≤ 1023 := by
  by_cases h0 : pMantD b = 0
  · have : pExpD b = 0 := by
      obtain ⟨_, _, h3⟩ := fin_exp h
      unfold pMantD at h0
      rw [if_neg (by omega)] at h0
      unfold pExpD
      by_cases hm : mantD b = 0
      · rw [if_pos (.inr hm)]
      · obtain ⟨m, e1, e2, e3⟩ := odd_split hm (by have := mantD_lt b; omega)
        unfold oddM at e1; omega
    omega
  · have h1 := mag_odd h
    have h2 : Fp.mag Ieee.double (b % 9223372036854775808) < Fp.mag Ieee.double 9218868437227405312 := (Fp.mag_lt_iff Ieee.double).2 h
    have h3 : Fp.mag Ieee.double 9218868437227405312 = 2 ^ Fp.dtop := by
      have := Fp.mag_infD
      rw [Fp.dI] at this
      exact this
    rcases Int.lt_or_le 1023 (pExpD b) with hc | hc
    · exfalso
      have h4 : 2 ^ Fp.dtop ≤ 2 ^ (pExpD b + 1074).toNat := Nat.pow_le_pow_right (by decide) (top_le hc)
      have h5 : 2 ^ (pExpD b + 1074).toNat ≤ pMantD b * 2 ^ (pExpD b + 1074).toNat := Nat.le_mul_of_pos_left _ (Nat.pos_of_ne_zero h0)
      rw [h1, h3] at h2
      exact absurd (Nat.lt_of_lt_of_le h2 (Nat.le_trans h4 h5)) (Nat.lt_irrefl _)
    · exact hc
end Go.Proofs.YtjmaggfddinbkaaGreatDoor
end

section
namespace Go.Proofs.YtjmaggfddinbkaaGreatDoor
open Go.RowKit
theorem odd_one : oddM 1 = 1 := by decide
theorem ctz_one : Lib.ctz 64 1 = 0 := by decide
theorem bitLen_one : Lib.bitLen 1 = 1 := by decide
theorem down_one (e : Int) : downD 1 e = min 52 (e + 1074).toNat := by
  unfold downD oddE
  rw [odd_one, ctz_one, bitLen_one]
  omega
theorem bad_one {e : Int} (h1 : -1074 ≤ e) (h2 : e ≤ 1023) : badD 1 e = false := by
  unfold badD oddE
  rw [odd_one, ctz_one, bitLen_one, decide_eq_false (by omega), decide_eq_false (by omega), decide_eq_false (by omega), decide_eq_false (by omega)]; rfl
theorem pow52 : (2 : Nat) ^ 52 = 4503599627370496 := by decide
theorem join_low {t : Nat} (h : t < 4503599627370496) : joinD false 0 t = t := by
  unfold joinD bitsOfD
  rw [if_neg (by omega), if_neg Bool.false_ne_true, show (0 : Int).toNat * 4503599627370496 + t + 0 = t by simp, fin_canon (by omega)]
theorem join_high {n : Nat} (h : n ≤ 2046) : joinD false (n : Int) 0 = n * 4503599627370496 := by
  unfold joinD bitsOfD
  rw [if_neg (by omega), if_neg Bool.false_ne_true, Int.toNat_natCast, Nat.add_zero, fin_canon (by omega)]
theorem last_is {e : Int} (h1 : -1074 ≤ e) (h2 : e ≤ 1023) : madeD false 1 e < 9218868437227405312 ∧ Fp.mag Ieee.double (madeD false 1 e) = 2 ^ (e + 1074).toNat := by
  unfold madeD fieldD topD
  rw [if_neg (by decide), bad_one h1 h2, if_neg Bool.false_ne_true, odd_one, down_one, Nat.one_mul]
  rcases Nat.lt_or_ge (e + 1074).toNat 52 with hk | hk
  · rw [Nat.min_eq_right (Nat.le_of_lt hk)]
    have ht : 2 ^ (e + 1074).toNat < 4503599627370496 := by rw [← pow52]; exact Nat.pow_lt_pow_right (by decide) hk
    generalize 2 ^ (e + 1074).toNat = t at *
    rw [if_pos ht, if_neg (by omega), Nat.mod_eq_of_lt ht, join_low ht]
    exact ⟨by omega, by rw [Fp.mag_lt _ _ (by rw [Fp.dB]; exact ht)]⟩
  · rw [Nat.min_eq_left hk, pow52, if_neg (Nat.lt_irrefl 4503599627370496), show oddE 1 e - ((52 : Nat) : Int) + 1075 = (((e + 1074).toNat - 51 : Nat) : Int) by unfold oddE; rw [ctz_one]; omega]
    generalize hK : (e + 1074).toNat = K at *
    rw [if_neg (by omega), join_high (by omega)]
    refine ⟨by omega, ?_⟩
    unfold Fp.mag
    rw [Fp.dB, if_neg (by omega), Nat.mul_mod_left, Nat.add_zero, Nat.mul_div_cancel _ (by decide), ← pow52, ← Nat.pow_add, show 52 + (K - 51 - 1) = K by omega]
theorem un_pos {r : Nat} (h : r < 9223372036854775808) : Fp.un Ieee.double r = Fp.mag Ieee.double r := by
  unfold Fp.un
  rw [sg_is (by omega), decide_eq_false (by omega), if_neg Bool.false_ne_true, Fp.rg64, Nat.mod_eq_of_lt h]
def lowB (a b : Nat) : Bool := decide ((Fp.un Ieee.double a).natAbs < 2 ^ (pExpD b + 1074).toNat)
def absB (x : Nat) : Nat := if Fp.un Ieee.double x < 0 then x - 9223372036854775808 else x
theorem sub63 {x : Nat} (h : 9223372036854775808 ≤ x) (hx : x < 18446744073709551616) (hf : x % 9223372036854775808 < 9218868437227405312) : x - 9223372036854775808 < 9223372036854775808 ∧ (x - 9223372036854775808) % 9223372036854775808 < 9218868437227405312 ∧ x - 9223372036854775808 = x % 9223372036854775808 := by omega
theorem absB_is {x : Nat} (hx : x < 18446744073709551616) (h : x % 9223372036854775808 < 9218868437227405312) : absB x < 18446744073709551616 ∧ absB x % 9223372036854775808 < 9218868437227405312 ∧ Fp.un Ieee.double (absB x) = (Fp.un Ieee.double x).natAbs := by
  unfold absB
  by_cases h0 : Fp.un Ieee.double x < 0
  · rw [if_pos h0]
    have hs := un_sign (x := x) (by omega)
    rw [decide_eq_true h0] at hs
    rw [sg_is hx] at hs
    have hge := of_decide_eq_true hs
    obtain ⟨k1, k2, k3⟩ := sub63 hge hx h
    refine ⟨Nat.lt_trans k1 (by decide), k2, ?_⟩
    rw [un_pos k1, un_abs, Fp.rg64, k3]
  · rw [if_neg h0]
    exact ⟨hx, h, (Int.natAbs_of_nonneg (Int.not_lt.1 h0)).symm⟩
theorem geq_low {a b : Nat} (ha : a < 18446744073709551616) (fa : a % 9223372036854775808 < 9218868437227405312) (fb : b % 9223372036854775808 < 9218868437227405312) :
    (FloatKind.f64.format.order (absB a) (madeD false 1 (pExpD b)) == some .gt || FloatKind.f64.format.order (absB a) (madeD false 1 (pExpD b)) == some .eq) = !lowB a b := by
  obtain ⟨h1, h2⟩ := last_is (P64.pExpD_range b).1 (pExp_hi fb)
  obtain ⟨_, k2, k3⟩ := absB_is ha fa
  rw [c_ge (by omega) (by rw [Nat.mod_eq_of_lt (by omega)]; omega), k3, un_pos (by omega), h2]
  unfold lowB
  generalize 2 ^ (pExpD b + 1074).toNat = P
  by_cases h : (Fp.un Ieee.double a).natAbs < P
  · rw [decide_eq_true h, decide_eq_false (by omega)]; rfl
  · rw [decide_eq_false h, decide_eq_true (by omega)]; rfl
theorem neg_flip {a : Nat} (ha : a < 9223372036854775808) : a ^^^ 2 ^ 63 = a + 9223372036854775808 := by
  have := Nat.two_pow_add_eq_or_of_lt (i := 63) (b := a) ha 1
  rw [Nat.mul_one] at this
  rw [show a + 9223372036854775808 = 2 ^ 63 + a by omega, this, Nat.xor_comm]
  apply Nat.eq_of_testBit_eq
  intro i
  rw [Nat.testBit_xor, Nat.testBit_or, Nat.testBit_two_pow]
  by_cases hi : 63 = i
  · subst hi
    rw [Nat.testBit_lt_two_pow ha]; simp
  · simp [hi]
theorem neg_float {x : Nat} (h : 9223372036854775808 ≤ x) (hx : x < 18446744073709551616) : Go.Op.negFloat .f64 x = x - 9223372036854775808 := by
  have g := neg_flip (a := x - 9223372036854775808) (by omega)
  rw [show x - 9223372036854775808 + 9223372036854775808 = x by omega] at g
  show x ^^^ 2 ^ 63 = _
  conv => lhs; rw [← g]
  rw [Nat.xor_assoc, Nat.xor_self, Nat.xor_zero]
theorem un_neg_ge {x : Nat} (hx : x < 18446744073709551616) (h0 : Fp.un Ieee.double x < 0) : 9223372036854775808 ≤ x := by
  have hs := un_sign (x := x) (by omega)
  rw [decide_eq_true h0, sg_is hx] at hs
  exact of_decide_eq_true hs
set_option maxHeartbeats 600000 in
theorem Eabs (x : Nat) (hx : x < 18446744073709551616) (h : x % 9223372036854775808 < 9218868437227405312) (w : World) : Calls Tryz.prog 74 #[.float .f64 x] w fun e w' => e = .returned (.float .f64 (absB x)) ∧ w = w' := by
  have h0 := c_lt (x := x) (y := 0) (by omega) (by decide)
  rw [show Fp.un Ieee.double 0 = 0 by rw [un_pos (by decide), Fp.mag_zero]; rfl] at h0
  unfold absB
  by_cases hn : Fp.un Ieee.double x < 0
  · rw [decide_eq_true hn] at h0
    rw [if_pos hn]
    have hf := neg_float (un_neg_ge hx hn) hx
    clear hn
    go_enter Tryz.func74, Tryz.ntmps74
    go_wp2
    go_ret
    exact ⟨by rw [← hf]; rfl, rfl⟩
  · rw [decide_eq_false hn] at h0
    rw [if_neg hn]
    clear hn
    go_enter Tryz.func74, Tryz.ntmps74
    go_wp2
    go_ret
    exact ⟨rfl, rfl⟩
set_option maxRecDepth 100000 in
set_option maxHeartbeats 600000 in
theorem Elast (b : Nat) (hb : b < 18446744073709551616) (w : World) (hT : Tab w) : Calls Tryz.prog 75 #[.float .f64 b] w fun e w' => e = .returned (.float .f64 (madeD false 1 (pExpD b))) ∧ Within w w' := by
  have HB := Lib.hid hb; have HT := Lib.hid hT; clear hb hT
  have CO := Lib.hid (fun w hT => Of_D false 1 (pExpD b) (by decide) w hT)
  have CP := Lib.hid (Parts_D b HB.out w HT.out)
  obtain ⟨e, he⟩ : ∃ e, e = pExpD b := ⟨_, rfl⟩
  rw [← he] at CO CP ⊢
  obtain ⟨r, hr⟩ : ∃ r, r = madeD false 1 e := ⟨_, rfl⟩
  obtain ⟨er, her⟩ : ∃ er, er = madeED 1 e := ⟨_, rfl⟩
  rw [← hr, ← her] at CO
  rw [← hr]
  clear hr her he
  go_enter Tryz.func75, Tryz.ntmps75
  go_wp2_with fail
  refine CP.out.mono ?_; rintro e1 w1 ⟨rfl, hb1⟩
  go_wp2_with fail
  refine (CO.out _ (HT.out.of (hb1.alloc _))).mono ?_; rintro e2 w2 ⟨rfl, hb2⟩
  go_wp2
  go_ret
  exact ⟨rfl, (hb1.alloc _).trans hb2⟩
end Go.Proofs.YtjmaggfddinbkaaGreatDoor
end

section
namespace Go.Proofs.YtjmaggfddinbkaaGreatDoor
open Go.RowKit
section
variable {P : Program} {ops : Array Oper}
end
def okAt (l : List Nat) (i : Nat) : Bool := decide (l.getD i 0 % 9223372036854775808 ≠ 0) && (decide (i = 0) || lowB (l.getD (i - 1) 0) (l.getD i 0))
def isB (l : List Nat) : Bool := decide (l.length ≤ 64) && l.all finD && (List.range l.length).all (okAt l)
theorem isB_no {l : List Nat} {k : Nat} (hk : k < l.length) (h : okAt l k = false) : isB l = false := by
  unfold isB
  have : (List.range l.length).all (okAt l) = false := by
    rw [List.all_eq_false]
    exact ⟨k, List.mem_range.2 hk, by rw [h]; decide⟩
  rw [this, Bool.and_false]
theorem isB_yes {l : List Nat} (h1 : l.length ≤ 64) (h2 : l.all finD = true) (h3 : ∀ k, k < l.length → okAt l k = true) : isB l = true := by
  unfold isB
  rw [decide_eq_true h1, h2, List.all_eq_true.2 (fun k hk => h3 k (List.mem_range.1 hk))]; rfl
theorem isB_long {l : List Nat} (h : 64 < l.length) : isB l = false := by
  unfold isB
  rw [decide_eq_false (by omega)]; rfl
theorem isB_fin {l : List Nat} (h : l.all finD = false) : isB l = false := by
  unfold isB
  rw [h]; simp
theorem fin_at {l : List Nat} (hw : Words64 l) (h : l.all finD = true) {k : Nat} (hk : k < l.length) : l.getD k 0 % 9223372036854775808 < 9218868437227405312 := by
  have hm : l.getD k 0 ∈ l := by rw [List.getD, List.getElem?_eq_getElem hk]; exact List.getElem_mem hk
  have := List.all_eq_true.1 h _ hm
  rw [finD_is (hw _ hm)] at this
  exact of_decide_eq_true this
set_option maxRecDepth 100000 in
set_option maxHeartbeats 600000 in
theorem eis_long (A : Option Addr) (c : Nat) (es : List Nat) (hw : Words64 es) (hl : es.length ≤ 1152921504606846976) (h64 : 64 < es.length) (w : World) (hT : Tab w) (hr : SlAt w A (f64v es)) : Calls Tryz.prog 17 #[.slice A es.length c] w fun e w' => e = .returned (.bool false) ∧ Within w w' := by
  have d : decide ((es.length : Int) > 64) = true := decide_eq_true (by omega)
  clear hw hr hT
  go_enter Tryz.func17, Tryz.ntmps17
  go_wp2
  go_ret
  exact ⟨rfl, Within.refl _⟩
set_option maxRecDepth 100000 in
set_option maxHeartbeats 600000 in
theorem eis_fin (A : Option Addr) (c : Nat) (es : List Nat) (hw : Words64 es) (hl : es.length ≤ 1152921504606846976) (h64 : es.length ≤ 64) (hf : es.all finD = false) (w : World) (hT : Tab w) (hr : SlAt w A (f64v es)) : Calls Tryz.prog 17 #[.slice A es.length c] w fun e w' => e = .returned (.bool false) ∧ Within w w' := by
  have d : decide ((es.length : Int) > 64) = false := decide_eq_false (by omega)
  have CF := Lib.hid (Finite_any A c es hw hl w hr)
  rw [hf] at CF
  clear hw hr hT hf
  go_enter Tryz.func17, Tryz.ntmps17
  go_wp2_with fail
  refine CF.out.mono ?_; rintro e1 w1 ⟨rfl, hb1⟩
  go_wp2
  go_ret
  exact ⟨rfl, hb1⟩
set_option maxRecDepth 100000 in
set_option maxHeartbeats 600000 in
theorem eis_main (A : Option Addr) (c : Nat) (es : List Nat) (hw : Words64 es) (hl : es.length ≤ 1152921504606846976) (h64 : es.length ≤ 64) (hf : es.all finD = true) (w : World) (hT : Tab w) (hr : SlAt w A (f64v es)) : Calls Tryz.prog 17 #[.slice A es.length c] w fun e w' => e = .returned (.bool (isB es)) ∧ Within w w' := by
  have d : decide ((es.length : Int) > 64) = false := decide_eq_false (by omega)
  have CF := Lib.hid (Finite_any A c es hw hl w hr)
  rw [hf] at CF
  have HW := Lib.hid hw; have HR := Lib.hid hr; have HT := Lib.hid hT; have HF := Lib.hid hf; have H64 := Lib.hid h64; clear hw hr hT hf
  go_enter Tryz.func17, Tryz.ntmps17
  go_wp2_with fail
  refine CF.out.mono ?_; rintro e1 w1 ⟨rfl, hb1⟩
  go_wp2
  go_loopw [14] (fun iv wr => ∃ k : Nat, k ≤ es.length ∧ iv = .int .i64 (k : Int) ∧ (∀ j, j < k → okAt es j = true) ∧ Within w wr) (fun iv _ => es.length - (intOf iv).toNat)
  case atStart => exact ⟨0, Nat.zero_le _, rfl, fun j hj => absurd hj (Nat.not_lt_zero _), hb1⟩
  case round =>
    obtain ⟨k, hk, rfl, hok, hin⟩ := hrel
    have HOK := Lib.hid hok; clear hok
    by_cases hlt : k < es.length
    · obtain ⟨ad, hA, hblk, hc⟩ := (HR.out.of hin).at hlt
      have fx := fin_at HW.out HF.out hlt
      have hx64 := HW.out.at hlt
      obtain ⟨x, hx⟩ : ∃ x, x = es.getD k 0 := ⟨_, rfl⟩
      rw [← hx] at hc fx hx64
      by_cases h0 : x % 9223372036854775808 = 0
      · have hz : (FloatKind.f64.format.order x 0 == some .eq) = true := by rw [c_zero, decide_eq_true h0]
        have NO := Lib.hid (isB_no hlt (by unfold okAt; rw [← hx, decide_eq_false (by omega)]; rfl))
        subst hA
        have cx := hc
        clear hc fx hx64 hx h0
        go_wp2
        go_region
        go_wp2
        go_ret
        exact ⟨(by rw [NO.out]; first | done | rfl), (by repeat (first | with_reducible exact Within.refl _ | with_reducible assumption | with_reducible refine arW_within ?_ _ _ _ | with_reducible refine Within.alloc ?_ _ | with_reducible refine Within.drew ?_ | with_reducible refine Within.trans ?_ (by assumption)))⟩
      · have hz : (FloatKind.f64.format.order x 0 == some .eq) = false := by rw [c_zero, decide_eq_false h0]
        rcases k with _ | j
        · have OKN := Lib.hid (show ∀ j, j < 0 + 1 → okAt es j = true by
            intro j hj
            have : j = 0 := by omega
            subst this
            unfold okAt
            rw [← hx, decide_eq_true (by omega)]; rfl)
          subst hA
          have cx : wr.cell? ad = some (.float .f64 x) := hc
          clear hc fx hx64 hx h0
          go_wp2
          go_region
          go_wp2
          go_roundw
          case rel => exact ⟨0 + 1, hlt, by go_num, OKN.out, (by repeat (first | with_reducible exact Within.refl _ | with_reducible assumption | with_reducible refine arW_within ?_ _ _ _ | with_reducible refine Within.alloc ?_ _ | with_reducible refine Within.drew ?_ | with_reducible refine Within.trans ?_ (by assumption)))⟩
          case measure => simp [intOf]; omega
        · obtain ⟨ad', hA', _, hc'⟩ := (HR.out.of hin).at (k := j) (by omega)
          have ead : ad = ad' := by rw [hA] at hA'; injection hA' with h
          subst ead
          have fy := fin_at HW.out HF.out (k := j) (by omega)
          have hy64 := HW.out.at (k := j) (by omega)
          obtain ⟨y, hy⟩ : ∃ y, y = es.getD j 0 := ⟨_, rfl⟩
          rw [← hy] at hc' fy hy64
          have CA := Lib.hid (fun w => Eabs y hy64 fy w)
          have CL := Lib.hid (fun w hT => Elast x hx64 w hT)
          have hge := geq_low hy64 fy fx
          obtain ⟨a, ha⟩ : ∃ a, a = absB y := ⟨_, rfl⟩
          obtain ⟨r, hr⟩ : ∃ r, r = madeD false 1 (pExpD x) := ⟨_, rfl⟩
          rw [← ha] at CA hge
          rw [← hr] at CL hge
          clear ha hr
          have e9 : IntKind.i64.wrap (((j + 1 : Nat) : Int) - 1) = (j : Int) := by rw [IntWalk.i64_in _ (by omega)]; omega
          have e8 : decide (((j + 1 : Nat) : Int) > 0) = true := decide_eq_true (by omega)
          have e8' : decide ((j : Int) + 1 > 0) = true := decide_eq_true (by omega)
          have hTr : Tab wr := HT.out.of hin
          have HIN := Lib.hid hin; clear hin
          subst hA
          have cx := hc
          have cy := hc'
          clear hc hc' hA' fx fy hx64 hy64
          obtain ⟨k, hke⟩ : ∃ k, k = j + 1 := ⟨_, rfl⟩
          cases hlb : lowB y x
          · rw [hlb] at hge
            have NO := Lib.hid (isB_no hlt (by unfold okAt; rw [← hx, Nat.add_sub_cancel, ← hy, hlb, decide_eq_false (Nat.succ_ne_zero j)]; simp))
            clear hlb hx hy h0
            rw [← hke] at hlt cx e8 e9 ⊢
            have hjl : j < es.length := by omega
            have hk0 : 0 < k := by omega
            have HKE := Lib.hid hke; clear hke e8'
            go_wp2
            refine wp_region_schG (fun W => W.cell? (ad.add k) = some (.float .f64 x) ∧ W.cell? (ad.add j) = some (.float .f64 y) ∧ ad.block < W.heap.size ∧ Tab W ∧ Within w W) 22 (.firm 0 (.firm 1 (.firm 2 (.firm 3 (.firm 4 (.firm 5 (.firm 6 (.firm 7 (.firm 8 (.firm 9 (.firm 10 (.firm 11 (.firm 12 (.firm 13 (.firm 15 (.firm 16 (.firm 17 (.firm 18 (.one 14 (.one 19 (.firm 20 (.firm 21 (.one 22 .nil))))))))))))))))))))))) (by kernel_rfl) (by kernel_rfl) ⟨cx, cy, hblk, hTr, HIN.out⟩ ?_
            rintro w0 ⟨cx, cy, hblk, hTw, hw0⟩
            try simp only [Act.put, List.setIfInBounds_toArray, List.set_cons_zero, List.set_cons_succ]
            apply sch_firm rfl rfl (by repeat (first | with_reducible exact Within.refl _ | with_reducible assumption | with_reducible refine Within.alloc ?_ _ | with_reducible refine Within.drew ?_ | with_reducible refine Within.drewN ?_ _ | with_reducible refine Within.setCell ?_ (by first | (simp; done) | (simp; omega)) _ | with_reducible refine Within.trans ?_ (by assumption)))
            · intro wq hq
              have hcq := hq.cells
              have gx := (hq.cell (p := ad.add k) (by rw [add_block]; exact hblk)).trans cx
              have gxb := Nat.lt_of_lt_of_le hblk hq.size
              have gy := (hq.cell (p := ad.add j) (by rw [add_block]; exact hblk)).trans cy
              clear hq
              go_simp
              first | rfl | (trace_state; fail)
            try simp only [Act.put, List.setIfInBounds_toArray, List.set_cons_zero, List.set_cons_succ]
            apply sch_firm rfl rfl (by repeat (first | with_reducible exact Within.refl _ | with_reducible assumption | with_reducible refine Within.alloc ?_ _ | with_reducible refine Within.drew ?_ | with_reducible refine Within.drewN ?_ _ | with_reducible refine Within.setCell ?_ (by first | (simp; done) | (simp; omega)) _ | with_reducible refine Within.trans ?_ (by assumption)))
            · intro wq hq
              have hcq := hq.cells
              have gx := (hq.cell (p := ad.add k) (by rw [add_block]; exact hblk)).trans cx
              have gxb := Nat.lt_of_lt_of_le hblk hq.size
              have gy := (hq.cell (p := ad.add j) (by rw [add_block]; exact hblk)).trans cy
              clear hq
              go_simp
              first | rfl | (trace_state; fail)
            try simp only [Act.put, List.setIfInBounds_toArray, List.set_cons_zero, List.set_cons_succ]
            apply sch_firm rfl rfl (by repeat (first | with_reducible exact Within.refl _ | with_reducible assumption | with_reducible refine Within.alloc ?_ _ | with_reducible refine Within.drew ?_ | with_reducible refine Within.drewN ?_ _ | with_reducible refine Within.setCell ?_ (by first | (simp; done) | (simp; omega)) _ | with_reducible refine Within.trans ?_ (by assumption)))
            · intro wq hq
              have hcq := hq.cells
              have gx := (hq.cell (p := ad.add k) (by rw [add_block]; exact hblk)).trans cx
              have gxb := Nat.lt_of_lt_of_le hblk hq.size
              have gy := (hq.cell (p := ad.add j) (by rw [add_block]; exact hblk)).trans cy
              clear hq
              go_simp
              first | rfl | (trace_state; fail)
            try simp only [Act.put, List.setIfInBounds_toArray, List.set_cons_zero, List.set_cons_succ]
            apply sch_firm rfl rfl (by repeat (first | with_reducible exact Within.refl _ | with_reducible assumption | with_reducible refine Within.alloc ?_ _ | with_reducible refine Within.drew ?_ | with_reducible refine Within.drewN ?_ _ | with_reducible refine Within.setCell ?_ (by first | (simp; done) | (simp; omega)) _ | with_reducible refine Within.trans ?_ (by assumption)))
            · intro wq hq
              have hcq := hq.cells
              have gx := (hq.cell (p := ad.add k) (by rw [add_block]; exact hblk)).trans cx
              have gxb := Nat.lt_of_lt_of_le hblk hq.size
              have gy := (hq.cell (p := ad.add j) (by rw [add_block]; exact hblk)).trans cy
              clear hq
              go_simp
              first | rfl | (trace_state; fail)
            try simp only [Act.put, List.setIfInBounds_toArray, List.set_cons_zero, List.set_cons_succ]
            apply sch_firm rfl rfl (by repeat (first | with_reducible exact Within.refl _ | with_reducible assumption | with_reducible refine Within.alloc ?_ _ | with_reducible refine Within.drew ?_ | with_reducible refine Within.drewN ?_ _ | with_reducible refine Within.setCell ?_ (by first | (simp; done) | (simp; omega)) _ | with_reducible refine Within.trans ?_ (by assumption)))
            · intro wq hq
              have hcq := hq.cells
              have gx := (hq.cell (p := ad.add k) (by rw [add_block]; exact hblk)).trans cx
              have gxb := Nat.lt_of_lt_of_le hblk hq.size
              have gy := (hq.cell (p := ad.add j) (by rw [add_block]; exact hblk)).trans cy
              clear hq
              go_simp
              first | rfl | (trace_state; fail)
            try simp only [Act.put, List.setIfInBounds_toArray, List.set_cons_zero, List.set_cons_succ]
            apply sch_firm rfl rfl (by repeat (first | with_reducible exact Within.refl _ | with_reducible assumption | with_reducible refine Within.alloc ?_ _ | with_reducible refine Within.drew ?_ | with_reducible refine Within.drewN ?_ _ | with_reducible refine Within.setCell ?_ (by first | (simp; done) | (simp; omega)) _ | with_reducible refine Within.trans ?_ (by assumption)))
            · intro wq hq
              have hcq := hq.cells
              have gx := (hq.cell (p := ad.add k) (by rw [add_block]; exact hblk)).trans cx
              have gxb := Nat.lt_of_lt_of_le hblk hq.size
              have gy := (hq.cell (p := ad.add j) (by rw [add_block]; exact hblk)).trans cy
              clear hq
              go_simp
              first | rfl | (trace_state; fail)
            try simp only [Act.put, List.setIfInBounds_toArray, List.set_cons_zero, List.set_cons_succ]
            apply sch_want rfl (by first | rfl | decide | (simp [Region.wanted, yielded]; done) | (simp [Region.wanted, yielded]; assumption)) (by repeat (first | with_reducible exact Within.refl _ | with_reducible assumption | with_reducible refine Within.alloc ?_ _ | with_reducible refine Within.drew ?_ | with_reducible refine Within.drewN ?_ _ | with_reducible refine Within.setCell ?_ (by first | (simp; done) | (simp; omega)) _ | with_reducible refine Within.trans ?_ (by assumption)))
            · intro wq hq
              have hcq := hq.cells
              have gx := (hq.cell (p := ad.add k) (by rw [add_block]; exact hblk)).trans cx
              have gxb := Nat.lt_of_lt_of_le hblk hq.size
              have gy := (hq.cell (p := ad.add j) (by rw [add_block]; exact hblk)).trans cy
              clear hq
              go_simp
              first | rfl | (trace_state; fail)
            try simp only [Act.put, List.setIfInBounds_toArray, List.set_cons_zero, List.set_cons_succ]
            apply sch_want rfl (by first | rfl | decide | (simp [Region.wanted, yielded]; done) | (simp [Region.wanted, yielded]; assumption)) (by repeat (first | with_reducible exact Within.refl _ | with_reducible assumption | with_reducible refine Within.alloc ?_ _ | with_reducible refine Within.drew ?_ | with_reducible refine Within.drewN ?_ _ | with_reducible refine Within.setCell ?_ (by first | (simp; done) | (simp; omega)) _ | with_reducible refine Within.trans ?_ (by assumption)))
            · intro wq hq
              have hcq := hq.cells
              have gx := (hq.cell (p := ad.add k) (by rw [add_block]; exact hblk)).trans cx
              have gxb := Nat.lt_of_lt_of_le hblk hq.size
              have gy := (hq.cell (p := ad.add j) (by rw [add_block]; exact hblk)).trans cy
              clear hq
              go_simp
              first | rfl | (trace_state; fail)
            try simp only [Act.put, List.setIfInBounds_toArray, List.set_cons_zero, List.set_cons_succ]
            apply sch_want rfl (by first | rfl | decide | (simp [Region.wanted, yielded]; done) | (simp [Region.wanted, yielded]; assumption)) (by repeat (first | with_reducible exact Within.refl _ | with_reducible assumption | with_reducible refine Within.alloc ?_ _ | with_reducible refine Within.drew ?_ | with_reducible refine Within.drewN ?_ _ | with_reducible refine Within.setCell ?_ (by first | (simp; done) | (simp; omega)) _ | with_reducible refine Within.trans ?_ (by assumption)))
            · intro wq hq
              have hcq := hq.cells
              have gx := (hq.cell (p := ad.add k) (by rw [add_block]; exact hblk)).trans cx
              have gxb := Nat.lt_of_lt_of_le hblk hq.size
              have gy := (hq.cell (p := ad.add j) (by rw [add_block]; exact hblk)).trans cy
              clear hq
              go_simp
              first | rfl | (trace_state; fail)
            try simp only [Act.put, List.setIfInBounds_toArray, List.set_cons_zero, List.set_cons_succ]
            apply sch_want rfl (by first | rfl | decide | (simp [Region.wanted, yielded]; done) | (simp [Region.wanted, yielded]; assumption)) (by repeat (first | with_reducible exact Within.refl _ | with_reducible assumption | with_reducible refine Within.alloc ?_ _ | with_reducible refine Within.drew ?_ | with_reducible refine Within.drewN ?_ _ | with_reducible refine Within.setCell ?_ (by first | (simp; done) | (simp; omega)) _ | with_reducible refine Within.trans ?_ (by assumption)))
            · intro wq hq
              have hcq := hq.cells
              have gx := (hq.cell (p := ad.add k) (by rw [add_block]; exact hblk)).trans cx
              have gxb := Nat.lt_of_lt_of_le hblk hq.size
              have gy := (hq.cell (p := ad.add j) (by rw [add_block]; exact hblk)).trans cy
              clear hq
              go_simp
              first | rfl | (trace_state; fail)
            try simp only [Act.put, List.setIfInBounds_toArray, List.set_cons_zero, List.set_cons_succ]
            apply sch_want rfl (by first | rfl | decide | (simp [Region.wanted, yielded]; done) | (simp [Region.wanted, yielded]; assumption)) (by repeat (first | with_reducible exact Within.refl _ | with_reducible assumption | with_reducible refine Within.alloc ?_ _ | with_reducible refine Within.drew ?_ | with_reducible refine Within.drewN ?_ _ | with_reducible refine Within.setCell ?_ (by first | (simp; done) | (simp; omega)) _ | with_reducible refine Within.trans ?_ (by assumption)))
            · intro wq hq
              have hcq := hq.cells
              have gx := (hq.cell (p := ad.add k) (by rw [add_block]; exact hblk)).trans cx
              have gxb := Nat.lt_of_lt_of_le hblk hq.size
              have gy := (hq.cell (p := ad.add j) (by rw [add_block]; exact hblk)).trans cy
              clear hq
              go_simp
              first | rfl | (trace_state; fail)
            try simp only [Act.put, List.setIfInBounds_toArray, List.set_cons_zero, List.set_cons_succ]
            apply sch_want rfl (by first | rfl | decide | (simp [Region.wanted, yielded]; done) | (simp [Region.wanted, yielded]; assumption)) (by repeat (first | with_reducible exact Within.refl _ | with_reducible assumption | with_reducible refine Within.alloc ?_ _ | with_reducible refine Within.drew ?_ | with_reducible refine Within.drewN ?_ _ | with_reducible refine Within.setCell ?_ (by first | (simp; done) | (simp; omega)) _ | with_reducible refine Within.trans ?_ (by assumption)))
            · intro wq hq
              have hcq := hq.cells
              have gx := (hq.cell (p := ad.add k) (by rw [add_block]; exact hblk)).trans cx
              have gxb := Nat.lt_of_lt_of_le hblk hq.size
              have gy := (hq.cell (p := ad.add j) (by rw [add_block]; exact hblk)).trans cy
              clear hq
              go_simp
              first | rfl | (trace_state; fail)
            try simp only [Act.put, List.setIfInBounds_toArray, List.set_cons_zero, List.set_cons_succ]
            apply sch_want rfl (by first | rfl | decide | (simp [Region.wanted, yielded]; done) | (simp [Region.wanted, yielded]; assumption)) (by repeat (first | with_reducible exact Within.refl _ | with_reducible assumption | with_reducible refine Within.alloc ?_ _ | with_reducible refine Within.drew ?_ | with_reducible refine Within.drewN ?_ _ | with_reducible refine Within.setCell ?_ (by first | (simp; done) | (simp; omega)) _ | with_reducible refine Within.trans ?_ (by assumption)))
            · intro wq hq
              have hcq := hq.cells
              have gx := (hq.cell (p := ad.add k) (by rw [add_block]; exact hblk)).trans cx
              have gxb := Nat.lt_of_lt_of_le hblk hq.size
              have gy := (hq.cell (p := ad.add j) (by rw [add_block]; exact hblk)).trans cy
              clear hq
              go_simp
              first | rfl | (trace_state; fail)
            try simp only [Act.put, List.setIfInBounds_toArray, List.set_cons_zero, List.set_cons_succ]
            apply sch_want rfl (by first | rfl | decide | (simp [Region.wanted, yielded]; done) | (simp [Region.wanted, yielded]; assumption)) (by repeat (first | with_reducible exact Within.refl _ | with_reducible assumption | with_reducible refine Within.alloc ?_ _ | with_reducible refine Within.drew ?_ | with_reducible refine Within.drewN ?_ _ | with_reducible refine Within.setCell ?_ (by first | (simp; done) | (simp; omega)) _ | with_reducible refine Within.trans ?_ (by assumption)))
            · intro wq hq
              have hcq := hq.cells
              have gx := (hq.cell (p := ad.add k) (by rw [add_block]; exact hblk)).trans cx
              have gxb := Nat.lt_of_lt_of_le hblk hq.size
              have gy := (hq.cell (p := ad.add j) (by rw [add_block]; exact hblk)).trans cy
              clear hq
              go_simp
              first | rfl | (trace_state; fail)
            try simp only [Act.put, List.setIfInBounds_toArray, List.set_cons_zero, List.set_cons_succ]
            apply sch_want rfl (by first | rfl | decide | (simp [Region.wanted, yielded]; done) | (simp [Region.wanted, yielded]; assumption)) (by repeat (first | with_reducible exact Within.refl _ | with_reducible assumption | with_reducible refine Within.alloc ?_ _ | with_reducible refine Within.drew ?_ | with_reducible refine Within.drewN ?_ _ | with_reducible refine Within.setCell ?_ (by first | (simp; done) | (simp; omega)) _ | with_reducible refine Within.trans ?_ (by assumption)))
            · intro wq hq
              have hcq := hq.cells
              have gx := (hq.cell (p := ad.add k) (by rw [add_block]; exact hblk)).trans cx
              have gxb := Nat.lt_of_lt_of_le hblk hq.size
              have gy := (hq.cell (p := ad.add j) (by rw [add_block]; exact hblk)).trans cy
              clear hq
              go_simp
              first | rfl | (trace_state; fail)
            try simp only [Act.put, List.setIfInBounds_toArray, List.set_cons_zero, List.set_cons_succ]
            apply sch_want rfl (by first | rfl | decide | (simp [Region.wanted, yielded]; done) | (simp [Region.wanted, yielded]; assumption)) (by repeat (first | with_reducible exact Within.refl _ | with_reducible assumption | with_reducible refine Within.alloc ?_ _ | with_reducible refine Within.drew ?_ | with_reducible refine Within.drewN ?_ _ | with_reducible refine Within.setCell ?_ (by first | (simp; done) | (simp; omega)) _ | with_reducible refine Within.trans ?_ (by assumption)))
            · intro wq hq
              have hcq := hq.cells
              have gx := (hq.cell (p := ad.add k) (by rw [add_block]; exact hblk)).trans cx
              have gxb := Nat.lt_of_lt_of_le hblk hq.size
              have gy := (hq.cell (p := ad.add j) (by rw [add_block]; exact hblk)).trans cy
              clear hq
              go_simp
              first | rfl | (trace_state; fail)
            try simp only [Act.put, List.setIfInBounds_toArray, List.set_cons_zero, List.set_cons_succ]
            apply sch_want rfl (by first | rfl | decide | (simp [Region.wanted, yielded]; done) | (simp [Region.wanted, yielded]; assumption)) (by repeat (first | with_reducible exact Within.refl _ | with_reducible assumption | with_reducible refine Within.alloc ?_ _ | with_reducible refine Within.drew ?_ | with_reducible refine Within.drewN ?_ _ | with_reducible refine Within.setCell ?_ (by first | (simp; done) | (simp; omega)) _ | with_reducible refine Within.trans ?_ (by assumption)))
            · intro wq hq
              have hcq := hq.cells
              have gx := (hq.cell (p := ad.add k) (by rw [add_block]; exact hblk)).trans cx
              have gxb := Nat.lt_of_lt_of_le hblk hq.size
              have gy := (hq.cell (p := ad.add j) (by rw [add_block]; exact hblk)).trans cy
              clear hq
              go_simp
              first | rfl | (trace_state; fail)
            try simp only [Act.put, List.setIfInBounds_toArray, List.set_cons_zero, List.set_cons_succ]
            apply sch_want rfl (by first | rfl | decide | (simp [Region.wanted, yielded]; done) | (simp [Region.wanted, yielded]; assumption)) (by repeat (first | with_reducible exact Within.refl _ | with_reducible assumption | with_reducible refine Within.alloc ?_ _ | with_reducible refine Within.drew ?_ | with_reducible refine Within.drewN ?_ _ | with_reducible refine Within.setCell ?_ (by first | (simp; done) | (simp; omega)) _ | with_reducible refine Within.trans ?_ (by assumption)))
            · intro wq hq
              have hcq := hq.cells
              have gx := (hq.cell (p := ad.add k) (by rw [add_block]; exact hblk)).trans cx
              have gxb := Nat.lt_of_lt_of_le hblk hq.size
              have gy := (hq.cell (p := ad.add j) (by rw [add_block]; exact hblk)).trans cy
              clear hq
              go_simp
              first | rfl | (trace_state; fail)
            try simp only [Act.put, List.setIfInBounds_toArray, List.set_cons_zero, List.set_cons_succ]
            refine sch_one_want rfl (by first | rfl | decide | (simp [Region.wanted, yielded]; done) | (simp [Region.wanted, yielded]; assumption)) (fun K hK => ?_)
            go_simp
            refine (CA.out _).mono ?_; rintro e5 w5 ⟨rfl, rfl⟩
            refine hK _ _ (fun _ => (by repeat (first | with_reducible exact Within.refl _ | with_reducible assumption | with_reducible refine Within.alloc ?_ _ | with_reducible refine Within.drew ?_ | with_reducible refine Within.drewN ?_ _ | with_reducible refine Within.setCell ?_ (by first | (simp; done) | (simp; omega)) _ | with_reducible refine Within.trans ?_ (by assumption)))) ?_
            clear hK K
            try simp only [Act.put, List.setIfInBounds_toArray, List.set_cons_zero, List.set_cons_succ]
            refine sch_one_want rfl (by first | rfl | decide | (simp [Region.wanted, yielded]; done) | (simp [Region.wanted, yielded]; assumption)) (fun K hK => ?_)
            go_simp
            refine (CL.out _ (hTw.of (by repeat (first | with_reducible exact Within.refl _ | with_reducible assumption | with_reducible refine Within.drew ?_ | with_reducible refine Within.trans ?_ (by assumption))))).mono ?_; rintro e6 w6 ⟨rfl, hb6⟩
            refine hK _ _ (fun _ => (by repeat (first | with_reducible exact Within.refl _ | with_reducible assumption | with_reducible refine Within.alloc ?_ _ | with_reducible refine Within.drew ?_ | with_reducible refine Within.drewN ?_ _ | with_reducible refine Within.setCell ?_ (by first | (simp; done) | (simp; omega)) _ | with_reducible refine Within.trans ?_ (by assumption)))) ?_
            clear hK K
            try simp only [Act.put, List.setIfInBounds_toArray, List.set_cons_zero, List.set_cons_succ]
            apply sch_want rfl (by first | rfl | decide | (simp [Region.wanted, yielded]; done) | (simp [Region.wanted, yielded]; assumption)) (by repeat (first | with_reducible exact Within.refl _ | with_reducible assumption | with_reducible refine Within.alloc ?_ _ | with_reducible refine Within.drew ?_ | with_reducible refine Within.drewN ?_ _ | with_reducible refine Within.setCell ?_ (by first | (simp; done) | (simp; omega)) _ | with_reducible refine Within.trans ?_ (by assumption)))
            · intro wq hq
              have hcq := hq.cells
              have gx := (hq.cell (p := ad.add k) (by rw [add_block]; exact hblk)).trans cx
              have gxb := Nat.lt_of_lt_of_le hblk hq.size
              have gy := (hq.cell (p := ad.add j) (by rw [add_block]; exact hblk)).trans cy
              clear hq
              go_simp
              first | rfl | (trace_state; fail)
            try simp only [Act.put, List.setIfInBounds_toArray, List.set_cons_zero, List.set_cons_succ]
            apply sch_want rfl (by first | rfl | decide | (simp [Region.wanted, yielded]; done) | (simp [Region.wanted, yielded]; assumption)) (by repeat (first | with_reducible exact Within.refl _ | with_reducible assumption | with_reducible refine Within.alloc ?_ _ | with_reducible refine Within.drew ?_ | with_reducible refine Within.drewN ?_ _ | with_reducible refine Within.setCell ?_ (by first | (simp; done) | (simp; omega)) _ | with_reducible refine Within.trans ?_ (by assumption)))
            · intro wq hq
              have hcq := hq.cells
              have gx := (hq.cell (p := ad.add k) (by rw [add_block]; exact hblk)).trans cx
              have gxb := Nat.lt_of_lt_of_le hblk hq.size
              have gy := (hq.cell (p := ad.add j) (by rw [add_block]; exact hblk)).trans cy
              clear hq
              go_simp
              first | rfl | (trace_state; fail)
            try simp only [Act.put, List.setIfInBounds_toArray, List.set_cons_zero, List.set_cons_succ]
            refine sch_one rfl rfl (fun K hK => ?_)
            go_simp
            refine hK _ _ (fun h => absurd h (by decide)) ?_
            clear hK K
            try simp only [Act.put, List.setIfInBounds_toArray, List.set_cons_zero, List.set_cons_succ]
            refine sch_nil ?_
            go_wp2
            go_ret
            exact ⟨(by rw [NO.out]; first | done | rfl), hw0.drew.trans hb6⟩
          · rw [hlb] at hge
            have OKN := Lib.hid (show ∀ i, i < j + 1 + 1 → okAt es i = true by
              intro i hi
              rcases Nat.lt_or_ge i (j + 1) with h | h
              · exact HOK.out i h
              · have : i = j + 1 := by omega
                subst this
                unfold okAt
                rw [← hx, Nat.add_sub_cancel, ← hy, hlb, decide_eq_true (by omega)]; simp)
            clear hlb hx hy h0
            rw [← hke] at hlt cx e8 e9 OKN ⊢
            have hjl : j < es.length := by omega
            have hk0 : 0 < k := by omega
            have HKE := Lib.hid hke; clear hke e8'
            go_wp2
            refine wp_region_schG (fun W => W.cell? (ad.add k) = some (.float .f64 x) ∧ W.cell? (ad.add j) = some (.float .f64 y) ∧ ad.block < W.heap.size ∧ Tab W ∧ Within w W) 22 (.firm 0 (.firm 1 (.firm 2 (.firm 3 (.firm 4 (.firm 5 (.firm 6 (.firm 7 (.firm 8 (.firm 9 (.firm 10 (.firm 11 (.firm 12 (.firm 13 (.firm 15 (.firm 16 (.firm 17 (.firm 18 (.one 14 (.one 19 (.firm 20 (.firm 21 (.one 22 .nil))))))))))))))))))))))) (by kernel_rfl) (by kernel_rfl) ⟨cx, cy, hblk, hTr, HIN.out⟩ ?_
            rintro w0 ⟨cx, cy, hblk, hTw, hw0⟩
            try simp only [Act.put, List.setIfInBounds_toArray, List.set_cons_zero, List.set_cons_succ]
            apply sch_firm rfl rfl (by repeat (first | with_reducible exact Within.refl _ | with_reducible assumption | with_reducible refine Within.alloc ?_ _ | with_reducible refine Within.drew ?_ | with_reducible refine Within.drewN ?_ _ | with_reducible refine Within.setCell ?_ (by first | (simp; done) | (simp; omega)) _ | with_reducible refine Within.trans ?_ (by assumption)))
            · intro wq hq
              have hcq := hq.cells
              have gx := (hq.cell (p := ad.add k) (by rw [add_block]; exact hblk)).trans cx
              have gxb := Nat.lt_of_lt_of_le hblk hq.size
              have gy := (hq.cell (p := ad.add j) (by rw [add_block]; exact hblk)).trans cy
              clear hq
              go_simp
              first | rfl | (trace_state; fail)
            try simp only [Act.put, List.setIfInBounds_toArray, List.set_cons_zero, List.set_cons_succ]
            apply sch_firm rfl rfl (by repeat (first | with_reducible exact Within.refl _ | with_reducible assumption | with_reducible refine Within.alloc ?_ _ | with_reducible refine Within.drew ?_ | with_reducible refine Within.drewN ?_ _ | with_reducible refine Within.setCell ?_ (by first | (simp; done) | (simp; omega)) _ | with_reducible refine Within.trans ?_ (by assumption)))
            · intro wq hq
              have hcq := hq.cells
              have gx := (hq.cell (p := ad.add k) (by rw [add_block]; exact hblk)).trans cx
              have gxb := Nat.lt_of_lt_of_le hblk hq.size
              have gy := (hq.cell (p := ad.add j) (by rw [add_block]; exact hblk)).trans cy
              clear hq
              go_simp
              first | rfl | (trace_state; fail)
            try simp only [Act.put, List.setIfInBounds_toArray, List.set_cons_zero, List.set_cons_succ]
            apply sch_firm rfl rfl (by repeat (first | with_reducible exact Within.refl _ | with_reducible assumption | with_reducible refine Within.alloc ?_ _ | with_reducible refine Within.drew ?_ | with_reducible refine Within.drewN ?_ _ | with_reducible refine Within.setCell ?_ (by first | (simp; done) | (simp; omega)) _ | with_reducible refine Within.trans ?_ (by assumption)))
            · intro wq hq
              have hcq := hq.cells
              have gx := (hq.cell (p := ad.add k) (by rw [add_block]; exact hblk)).trans cx
              have gxb := Nat.lt_of_lt_of_le hblk hq.size
              have gy := (hq.cell (p := ad.add j) (by rw [add_block]; exact hblk)).trans cy
              clear hq
              go_simp
              first | rfl | (trace_state; fail)
            try simp only [Act.put, List.setIfInBounds_toArray, List.set_cons_zero, List.set_cons_succ]
            apply sch_firm rfl rfl (by repeat (first | with_reducible exact Within.refl _ | with_reducible assumption | with_reducible refine Within.alloc ?_ _ | with_reducible refine Within.drew ?_ | with_reducible refine Within.drewN ?_ _ | with_reducible refine Within.setCell ?_ (by first | (simp; done) | (simp; omega)) _ | with_reducible refine Within.trans ?_ (by assumption)))
            · intro wq hq
              have hcq := hq.cells
              have gx := (hq.cell (p := ad.add k) (by rw [add_block]; exact hblk)).trans cx
              have gxb := Nat.lt_of_lt_of_le hblk hq.size
              have gy := (hq.cell (p := ad.add j) (by rw [add_block]; exact hblk)).trans cy
              clear hq
              go_simp
              first | rfl | (trace_state; fail)
            try simp only [Act.put, List.setIfInBounds_toArray, List.set_cons_zero, List.set_cons_succ]
            apply sch_firm rfl rfl (by repeat (first | with_reducible exact Within.refl _ | with_reducible assumption | with_reducible refine Within.alloc ?_ _ | with_reducible refine Within.drew ?_ | with_reducible refine Within.drewN ?_ _ | with_reducible refine Within.setCell ?_ (by first | (simp; done) | (simp; omega)) _ | with_reducible refine Within.trans ?_ (by assumption)))
            · intro wq hq
              have hcq := hq.cells
              have gx := (hq.cell (p := ad.add k) (by rw [add_block]; exact hblk)).trans cx
              have gxb := Nat.lt_of_lt_of_le hblk hq.size
              have gy := (hq.cell (p := ad.add j) (by rw [add_block]; exact hblk)).trans cy
              clear hq
              go_simp
              first | rfl | (trace_state; fail)
            try simp only [Act.put, List.setIfInBounds_toArray, List.set_cons_zero, List.set_cons_succ]
            apply sch_firm rfl rfl (by repeat (first | with_reducible exact Within.refl _ | with_reducible assumption | with_reducible refine Within.alloc ?_ _ | with_reducible refine Within.drew ?_ | with_reducible refine Within.drewN ?_ _ | with_reducible refine Within.setCell ?_ (by first | (simp; done) | (simp; omega)) _ | with_reducible refine Within.trans ?_ (by assumption)))
            · intro wq hq
              have hcq := hq.cells
              have gx := (hq.cell (p := ad.add k) (by rw [add_block]; exact hblk)).trans cx
              have gxb := Nat.lt_of_lt_of_le hblk hq.size
              have gy := (hq.cell (p := ad.add j) (by rw [add_block]; exact hblk)).trans cy
              clear hq
              go_simp
              first | rfl | (trace_state; fail)
            try simp only [Act.put, List.setIfInBounds_toArray, List.set_cons_zero, List.set_cons_succ]
            apply sch_want rfl (by first | rfl | decide | (simp [Region.wanted, yielded]; done) | (simp [Region.wanted, yielded]; assumption)) (by repeat (first | with_reducible exact Within.refl _ | with_reducible assumption | with_reducible refine Within.alloc ?_ _ | with_reducible refine Within.drew ?_ | with_reducible refine Within.drewN ?_ _ | with_reducible refine Within.setCell ?_ (by first | (simp; done) | (simp; omega)) _ | with_reducible refine Within.trans ?_ (by assumption)))
            · intro wq hq
              have hcq := hq.cells
              have gx := (hq.cell (p := ad.add k) (by rw [add_block]; exact hblk)).trans cx
              have gxb := Nat.lt_of_lt_of_le hblk hq.size
              have gy := (hq.cell (p := ad.add j) (by rw [add_block]; exact hblk)).trans cy
              clear hq
              go_simp
              first | rfl | (trace_state; fail)
            try simp only [Act.put, List.setIfInBounds_toArray, List.set_cons_zero, List.set_cons_succ]
            apply sch_want rfl (by first | rfl | decide | (simp [Region.wanted, yielded]; done) | (simp [Region.wanted, yielded]; assumption)) (by repeat (first | with_reducible exact Within.refl _ | with_reducible assumption | with_reducible refine Within.alloc ?_ _ | with_reducible refine Within.drew ?_ | with_reducible refine Within.drewN ?_ _ | with_reducible refine Within.setCell ?_ (by first | (simp; done) | (simp; omega)) _ | with_reducible refine Within.trans ?_ (by assumption)))
            · intro wq hq
              have hcq := hq.cells
              have gx := (hq.cell (p := ad.add k) (by rw [add_block]; exact hblk)).trans cx
              have gxb := Nat.lt_of_lt_of_le hblk hq.size
              have gy := (hq.cell (p := ad.add j) (by rw [add_block]; exact hblk)).trans cy
              clear hq
              go_simp
              first | rfl | (trace_state; fail)
            try simp only [Act.put, List.setIfInBounds_toArray, List.set_cons_zero, List.set_cons_succ]
            apply sch_want rfl (by first | rfl | decide | (simp [Region.wanted, yielded]; done) | (simp [Region.wanted, yielded]; assumption)) (by repeat (first | with_reducible exact Within.refl _ | with_reducible assumption | with_reducible refine Within.alloc ?_ _ | with_reducible refine Within.drew ?_ | with_reducible refine Within.drewN ?_ _ | with_reducible refine Within.setCell ?_ (by first | (simp; done) | (simp; omega)) _ | with_reducible refine Within.trans ?_ (by assumption)))
            · intro wq hq
              have hcq := hq.cells
              have gx := (hq.cell (p := ad.add k) (by rw [add_block]; exact hblk)).trans cx
              have gxb := Nat.lt_of_lt_of_le hblk hq.size
              have gy := (hq.cell (p := ad.add j) (by rw [add_block]; exact hblk)).trans cy
              clear hq
              go_simp
              first | rfl | (trace_state; fail)
            try simp only [Act.put, List.setIfInBounds_toArray, List.set_cons_zero, List.set_cons_succ]
            apply sch_want rfl (by first | rfl | decide | (simp [Region.wanted, yielded]; done) | (simp [Region.wanted, yielded]; assumption)) (by repeat (first | with_reducible exact Within.refl _ | with_reducible assumption | with_reducible refine Within.alloc ?_ _ | with_reducible refine Within.drew ?_ | with_reducible refine Within.drewN ?_ _ | with_reducible refine Within.setCell ?_ (by first | (simp; done) | (simp; omega)) _ | with_reducible refine Within.trans ?_ (by assumption)))
            · intro wq hq
              have hcq := hq.cells
              have gx := (hq.cell (p := ad.add k) (by rw [add_block]; exact hblk)).trans cx
              have gxb := Nat.lt_of_lt_of_le hblk hq.size
              have gy := (hq.cell (p := ad.add j) (by rw [add_block]; exact hblk)).trans cy
              clear hq
              go_simp
              first | rfl | (trace_state; fail)
            try simp only [Act.put, List.setIfInBounds_toArray, List.set_cons_zero, List.set_cons_succ]
            apply sch_want rfl (by first | rfl | decide | (simp [Region.wanted, yielded]; done) | (simp [Region.wanted, yielded]; assumption)) (by repeat (first | with_reducible exact Within.refl _ | with_reducible assumption | with_reducible refine Within.alloc ?_ _ | with_reducible refine Within.drew ?_ | with_reducible refine Within.drewN ?_ _ | with_reducible refine Within.setCell ?_ (by first | (simp; done) | (simp; omega)) _ | with_reducible refine Within.trans ?_ (by assumption)))
            · intro wq hq
              have hcq := hq.cells
              have gx := (hq.cell (p := ad.add k) (by rw [add_block]; exact hblk)).trans cx
              have gxb := Nat.lt_of_lt_of_le hblk hq.size
              have gy := (hq.cell (p := ad.add j) (by rw [add_block]; exact hblk)).trans cy
              clear hq
              go_simp
              first | rfl | (trace_state; fail)
            try simp only [Act.put, List.setIfInBounds_toArray, List.set_cons_zero, List.set_cons_succ]
            apply sch_want rfl (by first | rfl | decide | (simp [Region.wanted, yielded]; done) | (simp [Region.wanted, yielded]; assumption)) (by repeat (first | with_reducible exact Within.refl _ | with_reducible assumption | with_reducible refine Within.alloc ?_ _ | with_reducible refine Within.drew ?_ | with_reducible refine Within.drewN ?_ _ | with_reducible refine Within.setCell ?_ (by first | (simp; done) | (simp; omega)) _ | with_reducible refine Within.trans ?_ (by assumption)))
            · intro wq hq
              have hcq := hq.cells
              have gx := (hq.cell (p := ad.add k) (by rw [add_block]; exact hblk)).trans cx
              have gxb := Nat.lt_of_lt_of_le hblk hq.size
              have gy := (hq.cell (p := ad.add j) (by rw [add_block]; exact hblk)).trans cy
              clear hq
              go_simp
              first | rfl | (trace_state; fail)
            try simp only [Act.put, List.setIfInBounds_toArray, List.set_cons_zero, List.set_cons_succ]
            apply sch_want rfl (by first | rfl | decide | (simp [Region.wanted, yielded]; done) | (simp [Region.wanted, yielded]; assumption)) (by repeat (first | with_reducible exact Within.refl _ | with_reducible assumption | with_reducible refine Within.alloc ?_ _ | with_reducible refine Within.drew ?_ | with_reducible refine Within.drewN ?_ _ | with_reducible refine Within.setCell ?_ (by first | (simp; done) | (simp; omega)) _ | with_reducible refine Within.trans ?_ (by assumption)))
            · intro wq hq
              have hcq := hq.cells
              have gx := (hq.cell (p := ad.add k) (by rw [add_block]; exact hblk)).trans cx
              have gxb := Nat.lt_of_lt_of_le hblk hq.size
              have gy := (hq.cell (p := ad.add j) (by rw [add_block]; exact hblk)).trans cy
              clear hq
              go_simp
              first | rfl | (trace_state; fail)
            try simp only [Act.put, List.setIfInBounds_toArray, List.set_cons_zero, List.set_cons_succ]
            apply sch_want rfl (by first | rfl | decide | (simp [Region.wanted, yielded]; done) | (simp [Region.wanted, yielded]; assumption)) (by repeat (first | with_reducible exact Within.refl _ | with_reducible assumption | with_reducible refine Within.alloc ?_ _ | with_reducible refine Within.drew ?_ | with_reducible refine Within.drewN ?_ _ | with_reducible refine Within.setCell ?_ (by first | (simp; done) | (simp; omega)) _ | with_reducible refine Within.trans ?_ (by assumption)))
            · intro wq hq
              have hcq := hq.cells
              have gx := (hq.cell (p := ad.add k) (by rw [add_block]; exact hblk)).trans cx
              have gxb := Nat.lt_of_lt_of_le hblk hq.size
              have gy := (hq.cell (p := ad.add j) (by rw [add_block]; exact hblk)).trans cy
              clear hq
              go_simp
              first | rfl | (trace_state; fail)
            try simp only [Act.put, List.setIfInBounds_toArray, List.set_cons_zero, List.set_cons_succ]
            apply sch_want rfl (by first | rfl | decide | (simp [Region.wanted, yielded]; done) | (simp [Region.wanted, yielded]; assumption)) (by repeat (first | with_reducible exact Within.refl _ | with_reducible assumption | with_reducible refine Within.alloc ?_ _ | with_reducible refine Within.drew ?_ | with_reducible refine Within.drewN ?_ _ | with_reducible refine Within.setCell ?_ (by first | (simp; done) | (simp; omega)) _ | with_reducible refine Within.trans ?_ (by assumption)))
            · intro wq hq
              have hcq := hq.cells
              have gx := (hq.cell (p := ad.add k) (by rw [add_block]; exact hblk)).trans cx
              have gxb := Nat.lt_of_lt_of_le hblk hq.size
              have gy := (hq.cell (p := ad.add j) (by rw [add_block]; exact hblk)).trans cy
              clear hq
              go_simp
              first | rfl | (trace_state; fail)
            try simp only [Act.put, List.setIfInBounds_toArray, List.set_cons_zero, List.set_cons_succ]
            apply sch_want rfl (by first | rfl | decide | (simp [Region.wanted, yielded]; done) | (simp [Region.wanted, yielded]; assumption)) (by repeat (first | with_reducible exact Within.refl _ | with_reducible assumption | with_reducible refine Within.alloc ?_ _ | with_reducible refine Within.drew ?_ | with_reducible refine Within.drewN ?_ _ | with_reducible refine Within.setCell ?_ (by first | (simp; done) | (simp; omega)) _ | with_reducible refine Within.trans ?_ (by assumption)))
            · intro wq hq
              have hcq := hq.cells
              have gx := (hq.cell (p := ad.add k) (by rw [add_block]; exact hblk)).trans cx
              have gxb := Nat.lt_of_lt_of_le hblk hq.size
              have gy := (hq.cell (p := ad.add j) (by rw [add_block]; exact hblk)).trans cy
              clear hq
              go_simp
              first | rfl | (trace_state; fail)
            try simp only [Act.put, List.setIfInBounds_toArray, List.set_cons_zero, List.set_cons_succ]
            apply sch_want rfl (by first | rfl | decide | (simp [Region.wanted, yielded]; done) | (simp [Region.wanted, yielded]; assumption)) (by repeat (first | with_reducible exact Within.refl _ | with_reducible assumption | with_reducible refine Within.alloc ?_ _ | with_reducible refine Within.drew ?_ | with_reducible refine Within.drewN ?_ _ | with_reducible refine Within.setCell ?_ (by first | (simp; done) | (simp; omega)) _ | with_reducible refine Within.trans ?_ (by assumption)))
            · intro wq hq
              have hcq := hq.cells
              have gx := (hq.cell (p := ad.add k) (by rw [add_block]; exact hblk)).trans cx
              have gxb := Nat.lt_of_lt_of_le hblk hq.size
              have gy := (hq.cell (p := ad.add j) (by rw [add_block]; exact hblk)).trans cy
              clear hq
              go_simp
              first | rfl | (trace_state; fail)
            try simp only [Act.put, List.setIfInBounds_toArray, List.set_cons_zero, List.set_cons_succ]
            apply sch_want rfl (by first | rfl | decide | (simp [Region.wanted, yielded]; done) | (simp [Region.wanted, yielded]; assumption)) (by repeat (first | with_reducible exact Within.refl _ | with_reducible assumption | with_reducible refine Within.alloc ?_ _ | with_reducible refine Within.drew ?_ | with_reducible refine Within.drewN ?_ _ | with_reducible refine Within.setCell ?_ (by first | (simp; done) | (simp; omega)) _ | with_reducible refine Within.trans ?_ (by assumption)))
            · intro wq hq
              have hcq := hq.cells
              have gx := (hq.cell (p := ad.add k) (by rw [add_block]; exact hblk)).trans cx
              have gxb := Nat.lt_of_lt_of_le hblk hq.size
              have gy := (hq.cell (p := ad.add j) (by rw [add_block]; exact hblk)).trans cy
              clear hq
              go_simp
              first | rfl | (trace_state; fail)
            try simp only [Act.put, List.setIfInBounds_toArray, List.set_cons_zero, List.set_cons_succ]
            refine sch_one_want rfl (by first | rfl | decide | (simp [Region.wanted, yielded]; done) | (simp [Region.wanted, yielded]; assumption)) (fun K hK => ?_)
            go_simp
            refine (CA.out _).mono ?_; rintro e5 w5 ⟨rfl, rfl⟩
            refine hK _ _ (fun _ => (by repeat (first | with_reducible exact Within.refl _ | with_reducible assumption | with_reducible refine Within.alloc ?_ _ | with_reducible refine Within.drew ?_ | with_reducible refine Within.drewN ?_ _ | with_reducible refine Within.setCell ?_ (by first | (simp; done) | (simp; omega)) _ | with_reducible refine Within.trans ?_ (by assumption)))) ?_
            clear hK K
            try simp only [Act.put, List.setIfInBounds_toArray, List.set_cons_zero, List.set_cons_succ]
            refine sch_one_want rfl (by first | rfl | decide | (simp [Region.wanted, yielded]; done) | (simp [Region.wanted, yielded]; assumption)) (fun K hK => ?_)
            go_simp
            refine (CL.out _ (hTw.of (by repeat (first | with_reducible exact Within.refl _ | with_reducible assumption | with_reducible refine Within.drew ?_ | with_reducible refine Within.trans ?_ (by assumption))))).mono ?_; rintro e6 w6 ⟨rfl, hb6⟩
            refine hK _ _ (fun _ => (by repeat (first | with_reducible exact Within.refl _ | with_reducible assumption | with_reducible refine Within.alloc ?_ _ | with_reducible refine Within.drew ?_ | with_reducible refine Within.drewN ?_ _ | with_reducible refine Within.setCell ?_ (by first | (simp; done) | (simp; omega)) _ | with_reducible refine Within.trans ?_ (by assumption)))) ?_
            clear hK K
            try simp only [Act.put, List.setIfInBounds_toArray, List.set_cons_zero, List.set_cons_succ]
            apply sch_want rfl (by first | rfl | decide | (simp [Region.wanted, yielded]; done) | (simp [Region.wanted, yielded]; assumption)) (by repeat (first | with_reducible exact Within.refl _ | with_reducible assumption | with_reducible refine Within.alloc ?_ _ | with_reducible refine Within.drew ?_ | with_reducible refine Within.drewN ?_ _ | with_reducible refine Within.setCell ?_ (by first | (simp; done) | (simp; omega)) _ | with_reducible refine Within.trans ?_ (by assumption)))
            · intro wq hq
              have hcq := hq.cells
              have gx := (hq.cell (p := ad.add k) (by rw [add_block]; exact hblk)).trans cx
              have gxb := Nat.lt_of_lt_of_le hblk hq.size
              have gy := (hq.cell (p := ad.add j) (by rw [add_block]; exact hblk)).trans cy
              clear hq
              go_simp
              first | rfl | (trace_state; fail)
            try simp only [Act.put, List.setIfInBounds_toArray, List.set_cons_zero, List.set_cons_succ]
            apply sch_want rfl (by first | rfl | decide | (simp [Region.wanted, yielded]; done) | (simp [Region.wanted, yielded]; assumption)) (by repeat (first | with_reducible exact Within.refl _ | with_reducible assumption | with_reducible refine Within.alloc ?_ _ | with_reducible refine Within.drew ?_ | with_reducible refine Within.drewN ?_ _ | with_reducible refine Within.setCell ?_ (by first | (simp; done) | (simp; omega)) _ | with_reducible refine Within.trans ?_ (by assumption)))
            · intro wq hq
              have hcq := hq.cells
              have gx := (hq.cell (p := ad.add k) (by rw [add_block]; exact hblk)).trans cx
              have gxb := Nat.lt_of_lt_of_le hblk hq.size
              have gy := (hq.cell (p := ad.add j) (by rw [add_block]; exact hblk)).trans cy
              clear hq
              go_simp
              first | rfl | (trace_state; fail)
            try simp only [Act.put, List.setIfInBounds_toArray, List.set_cons_zero, List.set_cons_succ]
            refine sch_one rfl rfl (fun K hK => ?_)
            go_simp
            refine hK _ _ (fun h => absurd h (by decide)) ?_
            clear hK K
            try simp only [Act.put, List.setIfInBounds_toArray, List.set_cons_zero, List.set_cons_succ]
            refine sch_nil ?_
            have hw4 : Within w w6 := hw0.drew.trans hb6
            clear hw0
            go_wp2
            go_roundw
            case rel => exact ⟨k + 1, hlt, by go_num, OKN.out, hw4⟩
            case measure => simp [intOf]; omega
    · obtain rfl : k = es.length := by omega
      have YES := Lib.hid (isB_yes H64.out HF.out HOK.out)
      go_wp2
      go_ret
      exact ⟨(by rw [YES.out]; first | done | rfl), hin⟩
theorem eis_any (A : Option Addr) (c : Nat) (es : List Nat) (hw : Words64 es) (hl : es.length ≤ 1152921504606846976) (w : World) (hT : Tab w) (hr : SlAt w A (f64v es)) : Calls Tryz.prog 17 #[.slice A es.length c] w fun e w' => e = .returned (.bool (isB es)) ∧ Within w w' := by
  by_cases h64 : es.length ≤ 64
  · cases hf : es.all finD
    · rw [isB_fin hf]; exact eis_fin A c es hw hl h64 hf w hT hr
    · exact eis_main A c es hw hl h64 hf w hT hr
  · rw [isB_long (by omega)]; exact eis_long A c es hw hl (by omega) w hT hr
end Go.Proofs.YtjmaggfddinbkaaGreatDoor
end

section
namespace Go.Proofs.YtjmaggfddinbkaaGreatDoor
open Go.RowKit
def chkE (l : List Nat) : Int := if l.all finD = false then 4 else if 64 < l.length then 2 else if isB l = false then 40 else 0
theorem chkE_zero {l : List Nat} : chkE l = 0 ↔ isB l = true := by
  unfold chkE
  constructor
  · intro h
    split at h
    · cases h
    · split at h
      · cases h
      · split at h
        · cases h
        · rename_i h3; simpa using h3
  · intro h
    have h1 : l.all finD = true := by
      unfold isB at h; simp only [Bool.and_eq_true] at h; exact h.1.2
    have h2 : l.length ≤ 64 := by
      unfold isB at h; simp only [Bool.and_eq_true, decide_eq_true_eq] at h; exact h.1.1
    rw [h1, if_neg (by decide), if_neg (by omega), h, if_neg (by decide)]
theorem chk_len {l : List Nat} (h : chkE l = 0) : l.length ≤ 64 := by
  have := chkE_zero.1 h
  unfold isB at this; simp only [Bool.and_eq_true, decide_eq_true_eq] at this; exact this.1.1
def growL (es : List Nat) (b : Nat) : List (Option Nat) := if chkE es = 0 then (if finW b then (growSt (es.map fv) (fv b)).out else []) else []
def growEr (es : List Nat) (b : Nat) : Int := if chkE es = 0 then (if finW b then (growSt (es.map fv) (fv b)).err else 4) else chkE es
theorem ResF.none_ {W w : World} (er : Int) (h : Within W w) : ResF W [] er (.returned (.tuple #[.slice none 0 0, .int .i64 er])) w := ⟨_, [], rfl, OwnF.nil_ _ _, (fun x hx => by cases hx), rfl, h⟩
set_option maxRecDepth 100000 in
set_option maxHeartbeats 600000 in
theorem echeck_fin (A : Option Addr) (c : Nat) (es : List Nat) (hw : Words64 es) (hl : es.length ≤ 1152921504606846976) (hf : es.all finD = false) (w : World) (hT : Tab w) (hr : SlAt w A (f64v es)) : Calls Tryz.prog 65 #[.slice A es.length c] w fun e w' => e = .returned (.int .i64 (4)) ∧ Within w w' := by
  have CF := Lib.hid (Finite_any A c es hw (by omega) w hr)
  rw [hf] at CF
  clear hw hr hT hf
  go_enter Tryz.func65, Tryz.ntmps65
  go_wp2_with fail
  refine CF.out.mono ?_; rintro e1 w1 ⟨rfl, hb1⟩
  go_wp2
  go_ret
  exact ⟨rfl, hb1⟩
set_option maxRecDepth 100000 in
set_option maxHeartbeats 600000 in
theorem echeck_long (A : Option Addr) (c : Nat) (es : List Nat) (hw : Words64 es) (hl : es.length ≤ 1152921504606846976) (hf : es.all finD = true) (h64 : 64 < es.length) (w : World) (hT : Tab w) (hr : SlAt w A (f64v es)) : Calls Tryz.prog 65 #[.slice A es.length c] w fun e w' => e = .returned (.int .i64 (2)) ∧ Within w w' := by
  have CF := Lib.hid (Finite_any A c es hw (by omega) w hr)
  rw [hf] at CF
  have d : decide ((es.length : Int) > 64) = true := decide_eq_true (by omega)
  clear hw hr hT hf
  go_enter Tryz.func65, Tryz.ntmps65
  go_wp2_with fail
  refine CF.out.mono ?_; rintro e1 w1 ⟨rfl, hb1⟩
  go_wp2
  go_ret
  exact ⟨rfl, hb1⟩
set_option maxRecDepth 100000 in
set_option maxHeartbeats 600000 in
theorem echeck_is (A : Option Addr) (c : Nat) (es : List Nat) (hw : Words64 es) (hl : es.length ≤ 1152921504606846976) (hf : es.all finD = true) (h64 : es.length ≤ 64) (v : Int) (b : Bool) (hb : isB es = b) (hv : (if b then 0 else 40) = v) (w : World) (hT : Tab w) (hr : SlAt w A (f64v es)) : Calls Tryz.prog 65 #[.slice A es.length c] w fun e w' => e = .returned (.int .i64 (v)) ∧ Within w w' := by
  have CF := Lib.hid (Finite_any A c es hw (by omega) w hr)
  rw [hf] at CF
  have d : decide ((es.length : Int) > 64) = false := decide_eq_false (by omega)
  have CI := Lib.hid (fun w hT hr => eis_any A c es hw (by omega) w hT hr)
  rw [hb] at CI
  have HT := Lib.hid hT; have HR := Lib.hid hr; clear hw hr hT hf hb
  cases b
  · obtain rfl : v = 40 := by simpa using hv.symm
    clear hv
    go_enter Tryz.func65, Tryz.ntmps65
    go_wp2_with fail
    refine CF.out.mono ?_; rintro e1 w1 ⟨rfl, hb1⟩
    go_wp2_with fail
    refine (CI.out _ (HT.out.of hb1) (HR.out.of hb1)).mono ?_; rintro e2 w2 ⟨rfl, hb2⟩
    go_wp2
    go_ret
    exact ⟨rfl, hb1.trans hb2⟩
  · obtain rfl : v = 0 := by simpa using hv.symm
    clear hv
    go_enter Tryz.func65, Tryz.ntmps65
    go_wp2_with fail
    refine CF.out.mono ?_; rintro e1 w1 ⟨rfl, hb1⟩
    go_wp2_with fail
    refine (CI.out _ (HT.out.of hb1) (HR.out.of hb1)).mono ?_; rintro e2 w2 ⟨rfl, hb2⟩
    go_wp2
    go_ret
    exact ⟨rfl, hb1.trans hb2⟩
theorem echeck_any (A : Option Addr) (c : Nat) (es : List Nat) (hw : Words64 es) (hl : es.length ≤ 1152921504606846976) (w : World) (hT : Tab w) (hr : SlAt w A (f64v es)) : Calls Tryz.prog 65 #[.slice A es.length c] w fun e w' => e = .returned (.int .i64 (chkE es)) ∧ Within w w' := by
  unfold chkE
  cases hf : es.all finD
  · rw [if_pos rfl]; exact echeck_fin A c es hw hl hf w hT hr
  · rw [if_neg (by decide)]
    by_cases h64 : 64 < es.length
    · rw [if_pos h64]; exact echeck_long A c es hw hl hf h64 w hT hr
    · rw [if_neg h64]
      refine echeck_is A c es hw hl hf (by omega) _ (isB es) rfl ?_ w hT hr
      cases isB es <;> rfl
set_option maxRecDepth 100000 in
set_option maxHeartbeats 600000 in
theorem eGrow_any (A : Option Addr) (c : Nat) (es : List Nat) (hw : Words64 es) (hl : es.length ≤ 1152921504606846976) (b : Nat) (hb : b < 18446744073709551616) (w : World) (hT : Tab w) (hr : SlAt w A (f64v es)) : Calls Tryz.prog 13 #[.slice A es.length c, .float .f64 b] w (ResF w (growL es b) (growEr es b)) := by
  have CK := Lib.hid (echeck_any A c es hw hl w hT hr)
  have HR := Lib.hid hr; clear hr hT
  unfold growL growEr
  by_cases h0 : chkE es = 0
  · rw [if_pos h0, if_pos h0]
    have CG := Lib.hid (fun w hr => egrow_any A c es b hw (Nat.le_trans (chk_len h0) (by decide)) hb w hr)
    rw [h0] at CK
    clear h0 hw hb
    have CN := Lib.hid (fun w => efinite_any b w)
    cases hf : finW b
    · rw [if_neg (by decide), if_neg (by decide)]
      rw [hf] at CN
      clear hf
      go_enter Tryz.func13, Tryz.ntmps13
      go_wp2_with fail
      refine CK.out.mono ?_; rintro e1 w1 ⟨rfl, hb1⟩
      go_wp2_with fail
      refine (CN.out _).mono ?_; rintro e2 w2 ⟨rfl, hb2⟩
      go_wp2
      go_ret2
      exact ResF.none_ 4 (hb1.trans hb2)
    · rw [if_pos rfl, if_pos rfl]
      rw [hf] at CN
      clear hf
      obtain ⟨go, hgo⟩ : ∃ go, go = (growSt (es.map fv) (fv b)).out := ⟨_, rfl⟩
      obtain ⟨ge, hge⟩ : ∃ ge, ge = (growSt (es.map fv) (fv b)).err := ⟨_, rfl⟩
      rw [← hgo, ← hge] at CG ⊢
      clear hgo hge
      go_enter Tryz.func13, Tryz.ntmps13
      go_wp2_with fail
      refine CK.out.mono ?_; rintro e1 w1 ⟨rfl, hb1⟩
      go_wp2_with fail
      refine (CN.out _).mono ?_; rintro e2 w2 ⟨rfl, hb2⟩
      go_wp2_with fail
      refine (CG.out _ (HR.out.of (hb1.trans hb2))).mono ?_; rintro e3 w3 ⟨sv, ls, rfl, ho, hws, hm, hb3⟩
      go_wp2
      go_ret2
      exact ⟨sv, ls, rfl, OwnF.less ho (hb1.trans hb2).size, hws, hm, (hb1.trans hb2).trans hb3⟩
  · clear hw hb
    rw [if_neg h0, if_neg h0]
    obtain ⟨v, hv⟩ : ∃ v, v = chkE es := ⟨_, rfl⟩
    rw [← hv] at CK h0 ⊢
    have hne : (v != 0) = true := by simpa using h0
    clear hv h0
    go_enter Tryz.func13, Tryz.ntmps13
    go_wp2_with fail
    refine CK.out.mono ?_; rintro e1 w1 ⟨rfl, hb1⟩
    go_wp2
    go_ret2
    exact ResF.none_ v hb1
end Go.Proofs.YtjmaggfddinbkaaGreatDoor
end

section
namespace Go.Proofs.YtjmaggfddinbkaaGreatDoor
open Go.RowKit
theorem fv_some {x v : Nat} (h : fv x = some v) : x = v := by
  unfold fv at h
  split at h
  · cases h
  · injection h
theorem map_fv_two {ls : List Nat} {a b : Nat} (h : ls.map fv = [some a, some b]) : ls = [a, b] := by
  rcases ls with _ | ⟨x, _ | ⟨y, _ | ⟨z, l⟩⟩⟩
  · simp at h
  · simp at h
  · simp only [List.map_cons, List.map_nil, List.cons.injEq, and_true] at h
    rw [fv_some h.1, fv_some h.2]
  · simp at h
theorem t_twoS : twoS (fv 4845873199050653696) (fv 4607182418800017408) = some 4845873199050653696 := by decide +kernel
theorem t_twoL : twoL (fv 4845873199050653696) (fv 4607182418800017408) = some 4607182418800017408 := by decide +kernel
theorem t_halH : halH (fv 4728779608772575232) = some 4728779608739020800 := by decide +kernel
theorem t_halL : halL (fv 4728779608772575232) = some 4607182418800017408 := by decide +kernel
theorem t_proP : proP (fv 4728779608772575232) (fv 4728779608772575232) = some 4850376798745133056 := by decide +kernel
theorem t_proE : proE (fv 4728779608772575232) (fv 4728779608772575232) = some 4607182418800017408 := by decide +kernel
theorem t_growL : growL [4607182418800017408] 4877398396442247168 = [some 4607182418800017408, some 4877398396442247168] := by decide +kernel
theorem t_growE : growEr [4607182418800017408] 4877398396442247168 = 0 := by decide +kernel
theorem t_is : isB [4607182418800017408, 4877398396442247168] = true := by decide +kernel
theorem t_det : P64.detI 4607182418800017408 4611686018427387904 4613937818241073152 4616189618054758400 = -1 := by decide +kernel
theorem t_fin : [4607182418800017408, 4611686018427387904, 4613937818241073152, 4616189618054758400].all finD = true := by decide +kernel
set_option maxRecDepth 100000 in
set_option maxHeartbeats 1600000 in
theorem awake_true (w : World) (hT : Tab w) : Calls Tryz.prog 21 #[] w fun e w' => e = .returned (.bool true) ∧ Within w w' := by
  have C1 := Lib.hid (fun w => Etwo_any 4845873199050653696 4607182418800017408 (by decide) (by decide) w)
  have C2 := Lib.hid (fun w => Esplit_any 4728779608772575232 (by decide) w)
  have C3 := Lib.hid (fun w => Eprod_any 4728779608772575232 4728779608772575232 (by decide) (by decide) w)
  have C4 := Lib.hid (fun A w hT hr => eGrow_any A 1 [4607182418800017408] (by intro x hx; simp at hx; omega) (by decide) 4877398396442247168 (by decide) w hT hr)
  have C5 := Lib.hid (fun w hT => P64.Edet 4607182418800017408 4611686018427387904 4613937818241073152 4616189618054758400 (by decide) (by decide) (by decide) (by decide) w hT)
  have C6 := Lib.hid (fun A c w hT hr => eis_any A c [4607182418800017408, 4877398396442247168] (by intro x hx; simp at hx; omega) (by decide) w hT hr)
  rw [t_twoS, t_twoL] at C1
  rw [t_halH, t_halL] at C2
  rw [t_proP, t_proE] at C3
  rw [t_growL, t_growE] at C4
  rw [t_det, t_fin, if_pos rfl, if_pos rfl] at C5
  rw [t_is] at C6
  have HT := Lib.hid hT; clear hT
  have c47_47 : (FloatKind.f64.format.order 4845873199050653696 4845873199050653696 == some .eq) = true := by decide +kernel
  have c72_72 : (FloatKind.f64.format.order 4607182418800017408 4607182418800017408 == some .eq) = true := by decide +kernel
  have c19_19 : (FloatKind.f64.format.order 4728779608739020800 4728779608739020800 == some .eq) = true := by decide +kernel
  have c59_59 : (FloatKind.f64.format.order 4850376798745133056 4850376798745133056 == some .eq) = true := by decide +kernel
  go_enter Tryz.func21, Tryz.ntmps21
  go_wp2_with fail
  refine (C1.out _).mono ?_; rintro e1 w1 ⟨s1, l1, rfl, _, _, k1, k2, hb1⟩
  obtain rfl := fv_some k1
  obtain rfl := fv_some k2
  clear k1 k2
  rw [show canonD 4845873199050653696 = 4845873199050653696 by decide, show canonD 4607182418800017408 = 4607182418800017408 by decide]
  go_wp2_with fail
  refine (C2.out _).mono ?_; rintro e2 w2 ⟨s2, l2, rfl, _, _, k1, k2, hb2⟩
  obtain rfl := fv_some k1
  obtain rfl := fv_some k2
  clear k1 k2
  rw [show canonD 4728779608739020800 = 4728779608739020800 by decide, show canonD 4607182418800017408 = 4607182418800017408 by decide]
  go_wp2_with fail
  refine (C3.out _).mono ?_; rintro e3 w3 ⟨s3, l3, rfl, _, _, k1, k2, hb3⟩
  obtain rfl := fv_some k1
  obtain rfl := fv_some k2
  clear k1 k2
  rw [show canonD 4850376798745133056 = 4850376798745133056 by decide, show canonD 4607182418800017408 = 4607182418800017408 by decide]
  have h3 := (hb1.trans hb2).trans hb3
  clear hb1 hb2 hb3
  have HS := Lib.hid (P64.slAt_made w3 [4607182418800017408] _ 29 rfl)
  go_wp2_with fail
  refine (C4.out _ _ (HT.out.of (h3.alloc _)) HS.out).mono ?_; rintro e4 w4 ⟨sv, ls, rfl, ho, _, hm, hb4⟩
  obtain rfl := map_fv_two hm
  clear hm
  have h4 := (h3.alloc _).trans hb4
  clear hb4 h3
  obtain ⟨A, c, rfl, hc, hs, _⟩ := ho.form
  have HSL := Lib.hid hs
  clear ho
  go_wp2_with fail
  refine (C5.out _ (HT.out.of h4)).mono ?_; rintro e5 w5 ⟨rfl, hb5⟩
  have h5 := h4.trans hb5
  have HS5 := Lib.hid (hs.of hb5)
  clear hs HSL
  obtain ⟨ad, rfl, hblk, hcell⟩ := HS5.out.at (k := 0) (by decide)
  have hc0 : w5.cell? ad = some (.float .f64 4607182418800017408) := hcell
  clear hcell
  have C6' := Lib.hid (fun w hT hr => C6.out (some ad) c w hT hr)
  clear C6
  go_wp2_with fail
  refine (C6'.out _ (HT.out.of h5) HS5.out).mono ?_; rintro e6 w6 ⟨rfl, hb6⟩
  go_wp2
  go_ret
  exact ⟨rfl, h5.trans hb6⟩
end Go.Proofs.YtjmaggfddinbkaaGreatDoor
end

section
namespace Go.Proofs.YtjmaggfddinbkaaGreatDoor
open Go.RowKit
def ExR (W : World) (n E : Int) (e : Ending) (w' : World) : Prop := ∃ h, e = .returned (.agg #[.pointer (some ⟨h, 0, none⟩), .int .i64 E]) ∧ IntB w' h n ∧ W.heap.size ≤ h ∧ Within W w'
theorem IntB.setEx0 {w : World} {g n : Nat} {v : Int} {t : TypeId} {cs : Array Value} (h : IntB w g v) (hn : w.heap[n]? = some (.cells cs t (0, 0))) (ht : t ≠ 133) (hne : g ≠ n) {w' : World} (hb : ∀ k, k ≠ n → w'.heap[k]? = w.heap[k]?) : IntB w' g v := by
  obtain ⟨A, c, hb', hc, hr⟩ := h
  refine ⟨A, c, (hb _ hne).trans hb', hc, hr.of_block fun k m f hk => hb _ ?_⟩
  rintro rfl
  obtain ⟨cs', h1, _⟩ := hk
  rw [hn] at h1
  injection h1 with h1
  injection h1 with _ h2
  exact ht h2
theorem ex_set {w : World} {b h : Nat} {n E : Int} {x y : Value} (hb : w.heap[b]? = some (.cells #[x, y] 53 (0, 0))) (hI : IntB w h n) (hne : h ≠ b) :
    ((w.setCell ⟨b, 0, none⟩ (.pointer (some ⟨h, 0, none⟩))).setCell ⟨b, 1, none⟩ (.int .i64 E)).cell? ⟨b, 0, none⟩ = some (.pointer (some ⟨h, 0, none⟩)) ∧ ((w.setCell ⟨b, 0, none⟩ (.pointer (some ⟨h, 0, none⟩))).setCell ⟨b, 1, none⟩ (.int .i64 E)).cell? ⟨b, 1, none⟩ = some (.int .i64 E) ∧ IntB ((w.setCell ⟨b, 0, none⟩ (.pointer (some ⟨h, 0, none⟩))).setCell ⟨b, 1, none⟩ (.int .i64 E)) h n := by
  have h1 : ((w.setCell ⟨b, 0, none⟩ (.pointer (some ⟨h, 0, none⟩))).setCell ⟨b, 1, none⟩ (.int .i64 E)).heap[b]? = some (.cells #[.pointer (some ⟨h, 0, none⟩), .int .i64 E] 53 (0, 0)) := by
    simp [World.setCell, Array.getElem?_modify, hb]
  refine ⟨by unfold World.cell?; rw [h1]; rfl, by unfold World.cell?; rw [h1]; rfl, hI.setEx0 hb (by decide) hne (fun k hk => ?_)⟩
  rw [Below.heap_setCell _ _ _ _ hk, Below.heap_setCell _ _ _ _ hk]
theorem ex_cells {w : World} {b : Nat} (hb : w.heap[b]? = some (.cells #[.pointer none, .int .i64 0] 53 (0, 0))) : w.cell? ⟨b, 0, none⟩ = some (.pointer none) ∧ w.cell? ⟨b, 1, none⟩ = some (.int .i64 0) ∧ ∀ o, w.frozen? ⟨b, o, none⟩ = false :=
  ⟨by unfold World.cell?; rw [hb]; rfl, by unfold World.cell?; rw [hb]; rfl, fun o => by simp [World.frozen?, hb]⟩
set_option maxRecDepth 100000 in
set_option maxHeartbeats 600000 in
theorem Xneg (n E : Int) (g : Nat) (hl : (dg n.natAbs).length ≤ 1000) (w : World) (hI : IntB w g n) : Calls Tryz.prog 50 #[.agg #[.pointer (some ⟨g, 0, none⟩), .int .i64 E]] w (ExR w (-n) E) := by
  have HL := Lib.hid hl; clear hl
  go_enter Tryz.func50, Tryz.ntmps50
  go_wp2
  refine wp_region_schG (fun W => W.cell? ⟨w.heap.size, 0, none⟩ = some (.pointer (some ⟨g, 0, none⟩)) ∧ W.cell? ⟨w.heap.size, 1, none⟩ = some (.int .i64 E) ∧ W.heap[w.heap.size + 1]? = some (.cells #[.pointer none, .int .i64 0] 53 (0, 0)) ∧ IntB W g n ∧ w.heap.size < W.heap.size ∧ w.heap.size + 1 < W.heap.size ∧ Within w W) 7 (.firm 1 (.firm 2 (.firm 4 (.firm 5 (.one 0 (.one 3 (.firm 6 (.one 7 .nil)))))))) (by kernel_rfl) (by kernel_rfl) ⟨by go_simp, by go_simp, (by have := heap_alloc_new (w.alloc (.cells #[.pointer (some ⟨g, 0, none⟩), .int .i64 E] 53)) (.cells #[.pointer none, .int .i64 0] 53); simpa using this), (IntB.of hI (by repeat (first | with_reducible exact Within.refl _ | with_reducible assumption | with_reducible refine Within.alloc ?_ _ | with_reducible refine Within.drew ?_ | with_reducible refine Within.drewN ?_ _ | with_reducible refine Within.setCell ?_ (by first | (simp; done) | (simp; omega)) _ | with_reducible refine Within.trans ?_ (by assumption)))), by first | (simp; done) | (simp; omega), by first | (simp; done) | (simp; omega), (by repeat (first | with_reducible exact Within.refl _ | with_reducible assumption | with_reducible refine Within.alloc ?_ _ | with_reducible refine Within.drew ?_ | with_reducible refine Within.drewN ?_ _ | with_reducible refine Within.setCell ?_ (by first | (simp; done) | (simp; omega)) _ | with_reducible refine Within.trans ?_ (by assumption)))⟩ ?_
  rintro w0 ⟨c0, c1, hz, hI, l0, l1, hw0⟩
  try simp only [Act.put, List.setIfInBounds_toArray, List.set_cons_zero, List.set_cons_succ]
  apply sch_firm rfl rfl (by repeat (first | with_reducible exact Within.refl _ | with_reducible assumption | with_reducible refine Within.alloc ?_ _ | with_reducible refine Within.drew ?_ | with_reducible refine Within.drewN ?_ _ | with_reducible refine Within.setCell ?_ (by first | (simp; done) | (simp; omega)) _ | with_reducible refine Within.trans ?_ (by assumption)))
  · intro wq hq
    have hcq := hq.cells
    clear hq
    go_simp
    first | rfl | (trace_state; fail)
  try simp only [Act.put, List.setIfInBounds_toArray, List.set_cons_zero, List.set_cons_succ]
  apply sch_firm rfl rfl (by repeat (first | with_reducible exact Within.refl _ | with_reducible assumption | with_reducible refine Within.alloc ?_ _ | with_reducible refine Within.drew ?_ | with_reducible refine Within.drewN ?_ _ | with_reducible refine Within.setCell ?_ (by first | (simp; done) | (simp; omega)) _ | with_reducible refine Within.trans ?_ (by assumption)))
  · intro wq hq
    have hcq := hq.cells
    clear hq
    go_simp
    first | rfl | (trace_state; fail)
  try simp only [Act.put, List.setIfInBounds_toArray, List.set_cons_zero, List.set_cons_succ]
  apply sch_firm rfl rfl (by repeat (first | with_reducible exact Within.refl _ | with_reducible assumption | with_reducible refine Within.alloc ?_ _ | with_reducible refine Within.drew ?_ | with_reducible refine Within.drewN ?_ _ | with_reducible refine Within.setCell ?_ (by first | (simp; done) | (simp; omega)) _ | with_reducible refine Within.trans ?_ (by assumption)))
  · intro wq hq
    have hcq := hq.cells
    clear hq
    go_simp
    first | rfl | (trace_state; fail)
  try simp only [Act.put, List.setIfInBounds_toArray, List.set_cons_zero, List.set_cons_succ]
  apply sch_firm rfl rfl (by repeat (first | with_reducible exact Within.refl _ | with_reducible assumption | with_reducible refine Within.alloc ?_ _ | with_reducible refine Within.drew ?_ | with_reducible refine Within.drewN ?_ _ | with_reducible refine Within.setCell ?_ (by first | (simp; done) | (simp; omega)) _ | with_reducible refine Within.trans ?_ (by assumption)))
  · intro wq hq
    have hcq := hq.cells
    clear hq
    go_simp
    first | rfl | (trace_state; fail)
  try simp only [Act.put, List.setIfInBounds_toArray, List.set_cons_zero, List.set_cons_succ]
  refine sch_one rfl rfl (fun K hK => ?_)
  go_simp
  refine hK _ _ (fun _ => (by repeat (first | with_reducible exact Within.refl _ | with_reducible assumption | with_reducible refine Within.alloc ?_ _ | with_reducible refine Within.drew ?_ | with_reducible refine Within.drewN ?_ _ | with_reducible refine Within.setCell ?_ (by first | (simp; done) | (simp; omega)) _ | with_reducible refine Within.trans ?_ (by assumption)))) ?_
  clear hK K
  try simp only [Act.put, List.setIfInBounds_toArray, List.set_cons_zero, List.set_cons_succ]
  refine sch_one rfl rfl (fun K hK => ?_)
  go_simp
  refine (Bneg _ g n (Nat.le_trans HL.out (by decide)) _ (by exact (IntB.made w0).ty) (IntB.of hI (by repeat (first | with_reducible exact Within.refl _ | with_reducible assumption | with_reducible refine Within.alloc ?_ _ | with_reducible refine Within.drew ?_ | with_reducible refine Within.drewN ?_ _ | with_reducible refine Within.setCell ?_ (by first | (simp; done) | (simp; omega)) _ | with_reducible refine Within.trans ?_ (by assumption))))).mono ?_; rintro e5 w5 ⟨rfl, hJ, hG⟩
  have hv5 : Within w0 w5 := Within.grown (by repeat (first | with_reducible exact Within.refl _ | with_reducible assumption | with_reducible refine Within.alloc ?_ _ | with_reducible refine Within.drew ?_ | with_reducible refine Within.drewN ?_ _ | with_reducible refine Within.setCell ?_ (by first | (simp; done) | (simp; omega)) _ | with_reducible refine Within.trans ?_ (by assumption))) hG (by simp)
  have hz5 := (hv5.block _ l1).trans hz
  obtain ⟨y0, y1, yf⟩ := ex_cells hz5
  have yl := Nat.lt_of_lt_of_le l1 hv5.sizes
  refine hK _ _ (fun _ => (by repeat (first | with_reducible exact Within.refl _ | with_reducible assumption | with_reducible refine Within.alloc ?_ _ | with_reducible refine Within.drew ?_ | with_reducible refine Within.drewN ?_ _ | with_reducible refine Within.setCell ?_ (by first | (simp; done) | (simp; omega)) _ | with_reducible refine Within.trans ?_ (by assumption)))) ?_
  clear hK K
  try simp only [Act.put, List.setIfInBounds_toArray, List.set_cons_zero, List.set_cons_succ]
  apply sch_firm rfl rfl (by repeat (first | with_reducible exact Within.refl _ | with_reducible assumption | with_reducible refine Within.alloc ?_ _ | with_reducible refine Within.drew ?_ | with_reducible refine Within.drewN ?_ _ | with_reducible refine Within.setCell ?_ (by first | (simp; done) | (simp; omega)) _ | with_reducible refine Within.trans ?_ (by assumption)))
  · intro wq hq
    have hcq := hq.cells
    clear hq
    go_simp
    first | rfl | (trace_state; fail)
  try simp only [Act.put, List.setIfInBounds_toArray, List.set_cons_zero, List.set_cons_succ]
  refine sch_one rfl rfl (fun K hK => ?_)
  go_simp
  refine hK _ _ (fun h => absurd h (by decide)) ?_
  clear hK K
  try simp only [Act.put, List.setIfInBounds_toArray, List.set_cons_zero, List.set_cons_succ]
  refine sch_nil ?_
  obtain ⟨r0, r1, rI⟩ := ex_set (E := E) hz5 hJ (show w0.heap.size ≠ (w.heap.size + 1) by omega)
  have rl : (w.heap.size + 1) < w5.heap.size := by have := yl; omega
  go_wp2
  refine bodyPost_ret (v := .agg #[.pointer (some ⟨w0.heap.size, 0, none⟩), .int .i64 E]) (by simp [results, Tryz.results50, go_sem, r0, r1, rl]) rfl ⟨w0.heap.size, rfl, rI, hw0.sizes, ?_⟩
  exact ((hw0.trans hv5).setCell (by show _ ≤ (w.heap.size + 1); omega) _).setCell (by show _ ≤ (w.heap.size + 1); omega) _
set_option maxRecDepth 100000 in
set_option maxHeartbeats 600000 in
theorem Xabs (n E : Int) (g : Nat) (hl : (dg n.natAbs).length ≤ 1000) (w : World) (hI : IntB w g n) : Calls Tryz.prog 51 #[.agg #[.pointer (some ⟨g, 0, none⟩), .int .i64 E]] w (ExR w ((n.natAbs : Int)) E) := by
  have HL := Lib.hid hl; clear hl
  go_enter Tryz.func51, Tryz.ntmps51
  go_wp2
  refine wp_region_schG (fun W => W.cell? ⟨w.heap.size, 0, none⟩ = some (.pointer (some ⟨g, 0, none⟩)) ∧ W.cell? ⟨w.heap.size, 1, none⟩ = some (.int .i64 E) ∧ W.heap[w.heap.size + 1]? = some (.cells #[.pointer none, .int .i64 0] 53 (0, 0)) ∧ IntB W g n ∧ w.heap.size < W.heap.size ∧ w.heap.size + 1 < W.heap.size ∧ Within w W) 7 (.firm 1 (.firm 2 (.firm 4 (.firm 5 (.one 0 (.one 3 (.firm 6 (.one 7 .nil)))))))) (by kernel_rfl) (by kernel_rfl) ⟨by go_simp, by go_simp, (by have := heap_alloc_new (w.alloc (.cells #[.pointer (some ⟨g, 0, none⟩), .int .i64 E] 53)) (.cells #[.pointer none, .int .i64 0] 53); simpa using this), (IntB.of hI (by repeat (first | with_reducible exact Within.refl _ | with_reducible assumption | with_reducible refine Within.alloc ?_ _ | with_reducible refine Within.drew ?_ | with_reducible refine Within.drewN ?_ _ | with_reducible refine Within.setCell ?_ (by first | (simp; done) | (simp; omega)) _ | with_reducible refine Within.trans ?_ (by assumption)))), by first | (simp; done) | (simp; omega), by first | (simp; done) | (simp; omega), (by repeat (first | with_reducible exact Within.refl _ | with_reducible assumption | with_reducible refine Within.alloc ?_ _ | with_reducible refine Within.drew ?_ | with_reducible refine Within.drewN ?_ _ | with_reducible refine Within.setCell ?_ (by first | (simp; done) | (simp; omega)) _ | with_reducible refine Within.trans ?_ (by assumption)))⟩ ?_
  rintro w0 ⟨c0, c1, hz, hI, l0, l1, hw0⟩
  try simp only [Act.put, List.setIfInBounds_toArray, List.set_cons_zero, List.set_cons_succ]
  apply sch_firm rfl rfl (by repeat (first | with_reducible exact Within.refl _ | with_reducible assumption | with_reducible refine Within.alloc ?_ _ | with_reducible refine Within.drew ?_ | with_reducible refine Within.drewN ?_ _ | with_reducible refine Within.setCell ?_ (by first | (simp; done) | (simp; omega)) _ | with_reducible refine Within.trans ?_ (by assumption)))
  · intro wq hq
    have hcq := hq.cells
    clear hq
    go_simp
    first | rfl | (trace_state; fail)
  try simp only [Act.put, List.setIfInBounds_toArray, List.set_cons_zero, List.set_cons_succ]
  apply sch_firm rfl rfl (by repeat (first | with_reducible exact Within.refl _ | with_reducible assumption | with_reducible refine Within.alloc ?_ _ | with_reducible refine Within.drew ?_ | with_reducible refine Within.drewN ?_ _ | with_reducible refine Within.setCell ?_ (by first | (simp; done) | (simp; omega)) _ | with_reducible refine Within.trans ?_ (by assumption)))
  · intro wq hq
    have hcq := hq.cells
    clear hq
    go_simp
    first | rfl | (trace_state; fail)
  try simp only [Act.put, List.setIfInBounds_toArray, List.set_cons_zero, List.set_cons_succ]
  apply sch_firm rfl rfl (by repeat (first | with_reducible exact Within.refl _ | with_reducible assumption | with_reducible refine Within.alloc ?_ _ | with_reducible refine Within.drew ?_ | with_reducible refine Within.drewN ?_ _ | with_reducible refine Within.setCell ?_ (by first | (simp; done) | (simp; omega)) _ | with_reducible refine Within.trans ?_ (by assumption)))
  · intro wq hq
    have hcq := hq.cells
    clear hq
    go_simp
    first | rfl | (trace_state; fail)
  try simp only [Act.put, List.setIfInBounds_toArray, List.set_cons_zero, List.set_cons_succ]
  apply sch_firm rfl rfl (by repeat (first | with_reducible exact Within.refl _ | with_reducible assumption | with_reducible refine Within.alloc ?_ _ | with_reducible refine Within.drew ?_ | with_reducible refine Within.drewN ?_ _ | with_reducible refine Within.setCell ?_ (by first | (simp; done) | (simp; omega)) _ | with_reducible refine Within.trans ?_ (by assumption)))
  · intro wq hq
    have hcq := hq.cells
    clear hq
    go_simp
    first | rfl | (trace_state; fail)
  try simp only [Act.put, List.setIfInBounds_toArray, List.set_cons_zero, List.set_cons_succ]
  refine sch_one rfl rfl (fun K hK => ?_)
  go_simp
  refine hK _ _ (fun _ => (by repeat (first | with_reducible exact Within.refl _ | with_reducible assumption | with_reducible refine Within.alloc ?_ _ | with_reducible refine Within.drew ?_ | with_reducible refine Within.drewN ?_ _ | with_reducible refine Within.setCell ?_ (by first | (simp; done) | (simp; omega)) _ | with_reducible refine Within.trans ?_ (by assumption)))) ?_
  clear hK K
  try simp only [Act.put, List.setIfInBounds_toArray, List.set_cons_zero, List.set_cons_succ]
  refine sch_one rfl rfl (fun K hK => ?_)
  go_simp
  refine (Babs _ g n (Nat.le_trans HL.out (by decide)) _ (by exact (IntB.made w0).ty) (IntB.of hI (by repeat (first | with_reducible exact Within.refl _ | with_reducible assumption | with_reducible refine Within.alloc ?_ _ | with_reducible refine Within.drew ?_ | with_reducible refine Within.drewN ?_ _ | with_reducible refine Within.setCell ?_ (by first | (simp; done) | (simp; omega)) _ | with_reducible refine Within.trans ?_ (by assumption))))).mono ?_; rintro e5 w5 ⟨rfl, hJ, hG⟩
  have hv5 : Within w0 w5 := Within.grown (by repeat (first | with_reducible exact Within.refl _ | with_reducible assumption | with_reducible refine Within.alloc ?_ _ | with_reducible refine Within.drew ?_ | with_reducible refine Within.drewN ?_ _ | with_reducible refine Within.setCell ?_ (by first | (simp; done) | (simp; omega)) _ | with_reducible refine Within.trans ?_ (by assumption))) hG (by simp)
  have hz5 := (hv5.block _ l1).trans hz
  obtain ⟨y0, y1, yf⟩ := ex_cells hz5
  have yl := Nat.lt_of_lt_of_le l1 hv5.sizes
  refine hK _ _ (fun _ => (by repeat (first | with_reducible exact Within.refl _ | with_reducible assumption | with_reducible refine Within.alloc ?_ _ | with_reducible refine Within.drew ?_ | with_reducible refine Within.drewN ?_ _ | with_reducible refine Within.setCell ?_ (by first | (simp; done) | (simp; omega)) _ | with_reducible refine Within.trans ?_ (by assumption)))) ?_
  clear hK K
  try simp only [Act.put, List.setIfInBounds_toArray, List.set_cons_zero, List.set_cons_succ]
  apply sch_firm rfl rfl (by repeat (first | with_reducible exact Within.refl _ | with_reducible assumption | with_reducible refine Within.alloc ?_ _ | with_reducible refine Within.drew ?_ | with_reducible refine Within.drewN ?_ _ | with_reducible refine Within.setCell ?_ (by first | (simp; done) | (simp; omega)) _ | with_reducible refine Within.trans ?_ (by assumption)))
  · intro wq hq
    have hcq := hq.cells
    clear hq
    go_simp
    first | rfl | (trace_state; fail)
  try simp only [Act.put, List.setIfInBounds_toArray, List.set_cons_zero, List.set_cons_succ]
  refine sch_one rfl rfl (fun K hK => ?_)
  go_simp
  refine hK _ _ (fun h => absurd h (by decide)) ?_
  clear hK K
  try simp only [Act.put, List.setIfInBounds_toArray, List.set_cons_zero, List.set_cons_succ]
  refine sch_nil ?_
  obtain ⟨r0, r1, rI⟩ := ex_set (E := E) hz5 hJ (show w0.heap.size ≠ (w.heap.size + 1) by omega)
  have rl : (w.heap.size + 1) < w5.heap.size := by have := yl; omega
  go_wp2
  refine bodyPost_ret (v := .agg #[.pointer (some ⟨w0.heap.size, 0, none⟩), .int .i64 E]) (by simp [results, Tryz.results51, go_sem, r0, r1, rl]) rfl ⟨w0.heap.size, rfl, rI, hw0.sizes, ?_⟩
  exact ((hw0.trans hv5).setCell (by show _ ≤ (w.heap.size + 1); omega) _).setCell (by show _ ≤ (w.heap.size + 1); omega) _
def ofN (b : Nat) : Int := sgv (pNegD b) (pMantD b)
set_option maxRecDepth 100000 in
set_option maxHeartbeats 600000 in
theorem Xof0 (x : Nat) (neg : Bool) (m : Nat) (p : Int) (er : Value) (hm : m < 18446744073709551616) (CP : Hid (∀ w, Calls Tryz.prog 96 #[.float .f64 x] w fun e w' => e = .returned (.tuple #[.agg #[.bool neg, .int .u64 (m : Int), .int .i64 p], er]) ∧ Within w w')) (w : World) : Calls Tryz.prog 44 #[.float .f64 x] w (ExR w (sgv neg m) p) := by
  have HM := Lib.hid hm; clear hm
  go_enter Tryz.func44, Tryz.ntmps44
  go_wp2_with fail
  refine (CP.out _).mono ?_; rintro e1 w1 ⟨rfl, hb1⟩
  have HT : IntTy ((w1.alloc (.cells #[.bool neg, .int .u64 (m : Int), .int .i64 p] 97)).alloc (.cells #[.bool false, .slice none 0 0] 102)) (w1.heap.size + 1) := by
    have := (IntB.made (w1.alloc (.cells #[.bool neg, .int .u64 (m : Int), .int .i64 p] 97))).ty
    simpa using this
  go_wp2_with fail
  have k0 : ((w1.alloc (.cells #[.bool neg, .int .u64 (m : Int), .int .i64 p] 97)).alloc (.cells #[.bool false, .slice none 0 0] 102)).cell? ⟨w1.heap.size, 0, none⟩ = some (.bool neg) := by simp [go_sem]
  have k2 : ((w1.alloc (.cells #[.bool neg, .int .u64 (m : Int), .int .i64 p] 97)).alloc (.cells #[.bool false, .slice none 0 0] 102)).cell? ⟨w1.heap.size, 2, none⟩ = some (.int .i64 p) := by simp [go_sem]
  have hz1 : w1.heap[w.heap.size]? = some (.cells #[.pointer none, .int .i64 0] 53 (0, 0)) := (hb1.block _ (by simp)).trans (heap_alloc_new w _)
  have hww : Within w w1 := ((Within.refl w).alloc _).trans hb1
  have HW2 : Within w ((w1.alloc (.cells #[.bool neg, .int .u64 (m : Int), .int .i64 p] 97)).alloc (.cells #[.bool false, .slice none 0 0] 102)) := (hww.alloc _).alloc _
  have hzz : ((w1.alloc (.cells #[.bool neg, .int .u64 (m : Int), .int .i64 p] 97)).alloc (.cells #[.bool false, .slice none 0 0] 102)).heap[w.heap.size]? = some (.cells #[.pointer none, .int .i64 0] 53 (0, 0)) := ((((Within.refl w1).alloc _).alloc _).block _ (by have := hb1.size; simp at this; omega)).trans hz1
  obtain ⟨W2, hW2⟩ : ∃ W2, W2 = ((w1.alloc (.cells #[.bool neg, .int .u64 (m : Int), .int .i64 p] 97)).alloc (.cells #[.bool false, .slice none 0 0] 102)) := ⟨_, rfl⟩
  have hsz : W2.heap.size = w1.heap.size + 2 := by rw [hW2]; simp
  have hl : w.heap.size + 1 ≤ w1.heap.size := by have := hb1.size; simpa using this
  rw [← hW2] at HT k0 k2 HW2 hzz ⊢
  clear hW2 hz1
  have HS := Lib.hid hsz; have HL := Lib.hid hl; clear hsz hl
  refine (BsetUint64 (w1.heap.size + 1) m HM.out W2 HT).mono ?_; rintro e2 w2 ⟨rfl, hI2, hv2⟩
  have q0 := hv2.cell k0 (by simp)
  have q2 := hv2.cell k2 (by simp)
  have HLN := Lib.hid (show (dg (m : Int).natAbs).length ≤ 2000000 by rw [Int.natAbs_natCast]; exact Nat.le_trans (dg_len_le (k := 2) HM.out) (by decide))
  cases neg
  · rw [show sgv false m = (m : Int) from rfl]
    have hz2 := (hv2.block w.heap.size (by show w.heap.size < W2.heap.size; have := HS.out; have := HL.out; omega) (by simp; have := HL.out; omega)).trans hzz
    obtain ⟨y0, y1, yf⟩ := ex_cells hz2
    have yl : w.heap.size < w2.heap.size := World.block_lt_of_cell? _ _ y0
    have pl : w1.heap.size < w2.heap.size := World.block_lt_of_cell? _ _ q2
    obtain ⟨r0, r1, rI⟩ := ex_set (E := p) hz2 hI2 (show w1.heap.size + 1 ≠ w.heap.size by have := HL.out; omega)
    go_wp2
    refine bodyPost_ret (v := .agg #[.pointer (some ⟨(w1.heap.size + 1), 0, none⟩), .int .i64 p]) (by simp [results, Tryz.results44, go_sem, r0, r1, yl]) rfl ⟨w1.heap.size + 1, rfl, rI, by have := HL.out; omega, ?_⟩
    exact ((Within.grown HW2 hv2 (by have := HL.out; omega)).setCell (by show _ ≤ w.heap.size; omega) _).setCell (by show _ ≤ w.heap.size; omega) _
  · rw [show sgv true m = -(m : Int) from rfl]
    go_wp2_with fail
    refine (Bneg (w1.heap.size + 1) (w1.heap.size + 1) (m : Int) HLN.out w2 hI2.ty hI2).mono ?_; rintro e3 w3 ⟨rfl, hI3, hG3⟩
    have q2 := hG3.cell q2 (by simp)
    have hv3 := grown_trans hv2 hG3
    have hz3 := (hv3.block w.heap.size (by show w.heap.size < W2.heap.size; have := HS.out; have := HL.out; omega) (by simp; have := HL.out; omega)).trans hzz
    obtain ⟨y0, y1, yf⟩ := ex_cells hz3
    have yl : w.heap.size < w3.heap.size := World.block_lt_of_cell? _ _ y0
    have pl : w1.heap.size < w3.heap.size := World.block_lt_of_cell? _ _ q2
    obtain ⟨r0, r1, rI⟩ := ex_set (E := p) hz3 hI3 (show w1.heap.size + 1 ≠ w.heap.size by have := HL.out; omega)
    go_wp2
    refine bodyPost_ret (v := .agg #[.pointer (some ⟨(w1.heap.size + 1), 0, none⟩), .int .i64 p]) (by simp [results, Tryz.results44, go_sem, r0, r1, yl]) rfl ⟨w1.heap.size + 1, rfl, rI, by have := HL.out; omega, ?_⟩
    exact ((Within.grown HW2 hv3 (by have := HL.out; omega)).setCell (by show _ ≤ w.heap.size; omega) _).setCell (by show _ ≤ w.heap.size; omega) _
theorem Xof (b : Nat) (hb : b < 18446744073709551616) (w : World) : Calls Tryz.prog 44 #[.float .f64 b] w (ExR w (ofN b) (pExpD b)) :=
  Xof0 b (pNegD b) (pMantD b) (pExpD b) (.int .i64 (pErrD b)) (P64.pMantD_lt b) (Lib.hid fun w => Rparts_D b hb w) w
end Go.Proofs.YtjmaggfddinbkaaGreatDoor
end

section
namespace Go.Proofs.YtjmaggfddinbkaaGreatDoor
open Go.RowKit
def ExS (W : World) (n E : Int) (e : Ending) (w' : World) : Prop := ∃ h, e = .returned (.agg #[.pointer (some ⟨h, 0, none⟩), .int .i64 E]) ∧ IntB w' h n ∧ Within W w'
theorem ExR.s {W w' : World} {n E : Int} {e : Ending} (h : ExR W n E e w') : ExS W n E e w' := by
  obtain ⟨g, h1, h2, _, h4⟩ := h
  exact ⟨g, h1, h2, h4⟩
set_option maxRecDepth 100000 in
set_option maxHeartbeats 600000 in
theorem Xlow_same (n E e : Int) (g : Nat) (he : E ≤ e) (w : World) (hI : IntB w g n) : Calls Tryz.prog 104 #[.agg #[.pointer (some ⟨g, 0, none⟩), .int .i64 E], .int .i64 e] w (ExS w n E) := by
  have d : decide (e ≥ E) = true := decide_eq_true (by omega)
  clear he
  have hgl := hI.lt
  have HI := Lib.hid hI; clear hI
  have hz : ((w.alloc (.cells #[.pointer (some ⟨g, 0, none⟩), .int .i64 E] 53)).alloc (.cells #[.pointer none, .int .i64 0] 53)).heap[w.heap.size + 1]? = some (.cells #[.pointer none, .int .i64 0] 53 (0, 0)) := by have := heap_alloc_new (w.alloc (.cells #[.pointer (some ⟨g, 0, none⟩), .int .i64 E] 53)) (.cells #[.pointer none, .int .i64 0] 53); simpa using this
  go_enter Tryz.func104, Tryz.ntmps104
  go_wp2
  refine bodyPost_ret (v := .agg #[.pointer (some ⟨g, 0, none⟩), .int .i64 E]) (by simp [results, Tryz.results104, go_sem]) rfl ⟨g, rfl, HI.out.of (((Within.refl w).alloc _).alloc _), ((Within.refl w).alloc _).alloc _⟩
set_option maxRecDepth 100000 in
set_option maxHeartbeats 600000 in
theorem Xlow_less (n E e : Int) (g k : Nat) (he : E - e = (k : Int)) (hk : 0 < k) (hk2 : k ≤ 16000) (hl : (dg n.natAbs).length ≤ 1000) (w : World) (hI : IntB w g n) : Calls Tryz.prog 104 #[.agg #[.pointer (some ⟨g, 0, none⟩), .int .i64 E], .int .i64 e] w (ExS w (n * 2 ^ k) e) := by
  have d : decide (e ≥ E) = false := decide_eq_false (by omega)
  have hgl := hI.lt
  have HI := Lib.hid hI; clear hI
  have hz : ((w.alloc (.cells #[.pointer (some ⟨g, 0, none⟩), .int .i64 E] 53)).alloc (.cells #[.pointer none, .int .i64 0] 53)).heap[w.heap.size + 1]? = some (.cells #[.pointer none, .int .i64 0] 53 (0, 0)) := by have := heap_alloc_new (w.alloc (.cells #[.pointer (some ⟨g, 0, none⟩), .int .i64 E] 53)) (.cells #[.pointer none, .int .i64 0] 53); simpa using this
  have g1 : IntKind.i64.wrap (E - e) = (k : Int) := by rw [he, IntWalk.i64_in _ ⟨by omega, by omega⟩]
  have g2 : IntKind.u64.wrap (k : Int) = (k : Int) := by rw [IntKind.wrap_u64]; omega
  have CL := Lib.hid (fun z w' hz hx => Blsh z g k n (Nat.le_trans hl (by decide)) (Nat.le_trans hk2 (by decide)) w' hz hx)
  have hT : IntTy (((w.alloc (.cells #[.pointer (some ⟨g, 0, none⟩), .int .i64 E] 53)).alloc (.cells #[.pointer none, .int .i64 0] 53)).alloc (.cells #[.bool false, .slice none 0 0] 102)) (w.heap.size + 1 + 1) := by have := (IntB.made ((w.alloc (.cells #[.pointer (some ⟨g, 0, none⟩), .int .i64 E] 53)).alloc (.cells #[.pointer none, .int .i64 0] 53))).ty; simpa using this
  clear he hk hk2 hl
  go_enter Tryz.func104, Tryz.ntmps104
  go_wp2_with fail
  refine (CL.out _ _ (by exact hT) (HI.out.of ((((Within.refl w).alloc _).alloc _).alloc _))).mono ?_; rintro e5 w5 ⟨rfl, hJ, hG⟩
  have hz5 := (hG.block (w.heap.size + 1) (by simp) (by simp)).trans ((((Within.refl ((w.alloc (.cells #[.pointer (some ⟨g, 0, none⟩), .int .i64 E] 53)).alloc (.cells #[.pointer none, .int .i64 0] 53))).alloc _).block _ (by simp)).trans hz)
  obtain ⟨y0, y1, yf⟩ := ex_cells hz5
  have yl : w.heap.size + 1 < w5.heap.size := World.block_lt_of_cell? _ _ y0
  obtain ⟨r0, r1, rI⟩ := ex_set (E := e) hz5 hJ (by simp)
  have hv5 : Within w w5 := Within.grown ((((Within.refl w).alloc _).alloc _).alloc _) hG (by omega)
  go_wp2
  refine bodyPost_ret (v := .agg #[.pointer (some ⟨(w.heap.size + 1 + 1), 0, none⟩), .int .i64 e]) (by simp [results, Tryz.results104, go_sem, r0, r1, yl]) rfl ⟨_, rfl, rI, ?_⟩
  exact (hv5.setCell (by show _ ≤ w.heap.size + 1; omega) _).setCell (by show _ ≤ w.heap.size + 1; omega) _
end Go.Proofs.YtjmaggfddinbkaaGreatDoor
end

section
namespace Go.Proofs.YtjmaggfddinbkaaGreatDoor
open Go.RowKit
set_option maxRecDepth 100000 in
set_option maxHeartbeats 600000 in
theorem Bsign_zero (x : Nat) (v : Int) (h : v = 0) (w : World) (hx : IntB w x v) : Calls Tryz.prog 62 #[.pointer (some ⟨x, 0, none⟩)] w (fun e w' => e = .returned (.int .i64 (0)) ∧ w = w') := by
  obtain ⟨A, c, c0, c1, _⟩ := hx.rd
  subst h
  rw [show (dg (0 : Int).natAbs) = [] from dg_zero] at c1
  have d : (((List.length ([] : List Nat) : Nat) : Int) == 0) = true := rfl
  clear hx
  go_enter Tryz.func62, Tryz.ntmps62
  go_wp2
  go_ret
  exact ⟨rfl, rfl⟩
set_option maxRecDepth 100000 in
set_option maxHeartbeats 600000 in
theorem Bsign_neg (x : Nat) (v : Int) (h : v < 0) (w : World) (hx : IntB w x v) : Calls Tryz.prog 62 #[.pointer (some ⟨x, 0, none⟩)] w (fun e w' => e = .returned (.int .i64 (-1)) ∧ w = w') := by
  obtain ⟨A, c, c0, c1, _⟩ := hx.rd
  have hp := dg_len_pos (n := v.natAbs) (by omega)
  rw [decide_eq_true (by omega)] at c0
  obtain ⟨k, hk⟩ : ∃ k, k = (dg v.natAbs).length := ⟨_, rfl⟩
  rw [← hk] at c1 hp
  clear hk
  have d : ((k : Int) == 0) = false := beq_eq_false_iff_ne.2 (by omega)
  clear hx h
  go_enter Tryz.func62, Tryz.ntmps62
  go_wp2
  go_ret
  exact ⟨rfl, rfl⟩
set_option maxRecDepth 100000 in
set_option maxHeartbeats 600000 in
theorem Bsign_pos (x : Nat) (v : Int) (h : 0 < v) (w : World) (hx : IntB w x v) : Calls Tryz.prog 62 #[.pointer (some ⟨x, 0, none⟩)] w (fun e w' => e = .returned (.int .i64 (1)) ∧ w = w') := by
  obtain ⟨A, c, c0, c1, _⟩ := hx.rd
  have hp := dg_len_pos (n := v.natAbs) (by omega)
  rw [decide_eq_false (by omega)] at c0
  obtain ⟨k, hk⟩ : ∃ k, k = (dg v.natAbs).length := ⟨_, rfl⟩
  rw [← hk] at c1 hp
  clear hk
  have d : ((k : Int) == 0) = false := beq_eq_false_iff_ne.2 (by omega)
  clear hx h
  go_enter Tryz.func62, Tryz.ntmps62
  go_wp2
  go_ret
  exact ⟨rfl, rfl⟩
theorem Bsign (x : Nat) (v : Int) (w : World) (hx : IntB w x v) : Calls Tryz.prog 62 #[.pointer (some ⟨x, 0, none⟩)] w (fun e w' => e = .returned (.int .i64 v.sign) ∧ w = w') := by
  rcases Int.lt_trichotomy v 0 with h | h | h
  · rw [Int.sign_eq_neg_one_of_neg h]; exact Bsign_neg x v h w hx
  · subst h; exact Bsign_zero x 0 rfl w hx
  · rw [Int.sign_eq_one_of_pos h]; exact Bsign_pos x v h w hx
def cmpI (a b : Int) : Int := if a < b then -1 else if b < a then 1 else 0
theorem cmpN_range (a b : Nat) : -1 ≤ cmpN a b ∧ cmpN a b ≤ 1 := by unfold cmpN; split <;> (try split) <;> omega
end Go.Proofs.YtjmaggfddinbkaaGreatDoor
end

section
namespace Go.Proofs.YtjmaggfddinbkaaGreatDoor
open Go.RowKit
@[go_sem] theorem run_field_ex (a b : Value) (w : World) : (Instr.field 53 (.agg #[a, b]) 0).run Tryz.prog w = .ok a w := by
  kernel_rfl
theorem Xlow (n E e : Int) (g k : Nat) (he : E - e = (k : Int)) (hk2 : k ≤ 16000) (hl : (dg n.natAbs).length ≤ 1000) (w : World) (hI : IntB w g n) : Calls Tryz.prog 104 #[.agg #[.pointer (some ⟨g, 0, none⟩), .int .i64 E], .int .i64 e] w (ExS w (n * 2 ^ k) e) := by
  rcases Nat.eq_zero_or_pos k with h | h
  · subst h
    obtain rfl : E = e := by omega
    rw [Int.pow_zero, Int.mul_one]
    exact Xlow_same n E E g (Int.le_refl _) w hI
  · exact Xlow_less n E e g k he h hk2 hl w hI
theorem wp_new_int {o : Oper} {a : Act} {w : World} {K : Act → World → Prop} {Q : Exit → Act → World → Prop} (ho : o.op = .alloc 102)
    (h : ∀ z w', IntTy w' z → Within w w' → w.heap.size ≤ z → K (a.put o.dst (.pointer (some ⟨z, 0, none⟩))) w') : o.wp Tryz.prog a w K Q := by
  have h1 := h w.heap.size (w.alloc (.cells #[.bool false, .slice none 0 0] 102)) (IntB.made w).ty ((Within.refl w).alloc _) (Nat.le_refl _)
  unfold Oper.wp execOp
  rw [ho]
  go_simp
  exact h1
set_option maxRecDepth 100000 in
set_option maxHeartbeats 600000 in
theorem Xadd_l (n2 E1 E2 e : Int) (g1 g2 : Nat) (he : min E1 E2 = e) (w : World) (hI1 : IntB w g1 0) (hI2 : IntB w g2 n2) : Calls Tryz.prog 48 #[.agg #[.pointer (some ⟨g1, 0, none⟩), .int .i64 E1], .agg #[.pointer (some ⟨g2, 0, none⟩), .int .i64 E2]] w (ExS w n2 E2) := by
  have S1 := Lib.hid (fun w (h : IntB w g1 0) => Bsign g1 0 w h)
  rw [show (0 : Int).sign = 0 from rfl] at S1
  have J1 := Lib.hid (hI1.of ((((Within.refl w).alloc (.cells #[.pointer (some ⟨g1, 0, none⟩), .int .i64 E1] 53)).alloc (.cells #[.pointer (some ⟨g2, 0, none⟩), .int .i64 E2] 53)).alloc (.cells #[.pointer none, .int .i64 0] 53)))
  have HI2 := Lib.hid hI2; clear hI1 hI2
  go_enter Tryz.func48, Tryz.ntmps48
  go_wp2_with fail
  refine (S1.out _ J1.out).mono ?_; rintro e5 w5 ⟨rfl, rfl⟩
  go_wp2
  refine bodyPost_ret (v := .agg #[.pointer (some ⟨g2, 0, none⟩), .int .i64 E2]) (by simp [results, Tryz.results48, go_sem]) rfl ⟨g2, rfl, HI2.out.of ((((Within.refl w).alloc _).alloc _).alloc _), ((((Within.refl w).alloc _).alloc _).alloc _)⟩
set_option maxRecDepth 100000 in
set_option maxHeartbeats 600000 in
theorem Xadd_r (n1 E1 E2 e : Int) (g1 g2 : Nat) (he : min E1 E2 = e) (h1 : n1 ≠ 0) (w : World) (hI1 : IntB w g1 n1) (hI2 : IntB w g2 0) : Calls Tryz.prog 48 #[.agg #[.pointer (some ⟨g1, 0, none⟩), .int .i64 E1], .agg #[.pointer (some ⟨g2, 0, none⟩), .int .i64 E2]] w (ExS w n1 E1) := by
  have S1 := Lib.hid (fun w (h : IntB w g1 n1) => Bsign g1 n1 w h)
  have S2 := Lib.hid (fun w (h : IntB w g2 0) => Bsign g2 0 w h)
  rw [show (0 : Int).sign = 0 from rfl] at S2
  have d1 : (n1.sign == 0) = false := by rw [beq_eq_false_iff_ne]; intro h; exact h1 (Int.sign_eq_zero_iff_zero.1 h)
  clear h1
  have J1 := Lib.hid (hI1.of ((((Within.refl w).alloc (.cells #[.pointer (some ⟨g1, 0, none⟩), .int .i64 E1] 53)).alloc (.cells #[.pointer (some ⟨g2, 0, none⟩), .int .i64 E2] 53)).alloc (.cells #[.pointer none, .int .i64 0] 53)))
  have J2 := Lib.hid (hI2.of ((((Within.refl w).alloc (.cells #[.pointer (some ⟨g1, 0, none⟩), .int .i64 E1] 53)).alloc (.cells #[.pointer (some ⟨g2, 0, none⟩), .int .i64 E2] 53)).alloc (.cells #[.pointer none, .int .i64 0] 53)))
  have HI1 := Lib.hid hI1; clear hI1 hI2
  go_enter Tryz.func48, Tryz.ntmps48
  go_wp2_with fail
  refine (S1.out _ J1.out).mono ?_; rintro e5 w5 ⟨rfl, rfl⟩
  go_wp2_with fail
  refine (S2.out _ J2.out).mono ?_; rintro e5 w5 ⟨rfl, rfl⟩
  go_wp2
  refine bodyPost_ret (v := .agg #[.pointer (some ⟨g1, 0, none⟩), .int .i64 E1]) (by simp [results, Tryz.results48, go_sem]) rfl ⟨g1, rfl, HI1.out.of ((((Within.refl w).alloc _).alloc _).alloc _), ((((Within.refl w).alloc _).alloc _).alloc _)⟩
set_option maxRecDepth 100000 in
set_option maxHeartbeats 600000 in
theorem Xadd_sum (n1 n2 E1 E2 e : Int) (g1 g2 : Nat) (he : min E1 E2 = e) (v1 v2 : Int) (h1 : n1 ≠ 0) (h2 : n2 ≠ 0) (hv : (dg v1.natAbs).length ≤ 1000000 ∧ (dg v2.natAbs).length ≤ 1000000) (L1 : Hid (∀ w, IntB w g1 n1 → Calls Tryz.prog 104 #[.agg #[.pointer (some ⟨g1, 0, none⟩), .int .i64 E1], .int .i64 e] w (ExS w v1 e))) (L2 : Hid (∀ w, IntB w g2 n2 → Calls Tryz.prog 104 #[.agg #[.pointer (some ⟨g2, 0, none⟩), .int .i64 E2], .int .i64 e] w (ExS w v2 e))) (w : World) (hI1 : IntB w g1 n1) (hI2 : IntB w g2 n2) : Calls Tryz.prog 48 #[.agg #[.pointer (some ⟨g1, 0, none⟩), .int .i64 E1], .agg #[.pointer (some ⟨g2, 0, none⟩), .int .i64 E2]] w (ExS w (v1 + v2) e) := by
  have S1 := Lib.hid (fun w (h : IntB w g1 n1) => Bsign g1 n1 w h)
  have S2 := Lib.hid (fun w (h : IntB w g2 n2) => Bsign g2 n2 w h)
  have d1 : (n1.sign == 0) = false := by rw [beq_eq_false_iff_ne]; intro h; exact h1 (Int.sign_eq_zero_iff_zero.1 h)
  have d2 : (n2.sign == 0) = false := by rw [beq_eq_false_iff_ne]; intro h; exact h2 (Int.sign_eq_zero_iff_zero.1 h)
  have HV := Lib.hid hv; clear h1 h2 hv
  have J1 := Lib.hid (hI1.of ((((Within.refl w).alloc (.cells #[.pointer (some ⟨g1, 0, none⟩), .int .i64 E1] 53)).alloc (.cells #[.pointer (some ⟨g2, 0, none⟩), .int .i64 E2] 53)).alloc (.cells #[.pointer none, .int .i64 0] 53)))
  have J2 := Lib.hid (hI2.of ((((Within.refl w).alloc (.cells #[.pointer (some ⟨g1, 0, none⟩), .int .i64 E1] 53)).alloc (.cells #[.pointer (some ⟨g2, 0, none⟩), .int .i64 E2] 53)).alloc (.cells #[.pointer none, .int .i64 0] 53)))
  go_enter Tryz.func48, Tryz.ntmps48
  go_wp2_with fail
  refine (S1.out _ J1.out).mono ?_; rintro e5 w5 ⟨rfl, rfl⟩
  go_wp2_with fail
  refine (S2.out _ J2.out).mono ?_; rintro e5 w5 ⟨rfl, rfl⟩
  go_wp2
  refine wp_region_schG (fun W => W.cell? ⟨w.heap.size, 0, none⟩ = some (.pointer (some ⟨g1, 0, none⟩)) ∧ W.cell? ⟨w.heap.size, 1, none⟩ = some (.int .i64 E1) ∧ W.cell? ⟨w.heap.size + 1, 0, none⟩ = some (.pointer (some ⟨g2, 0, none⟩)) ∧ W.cell? ⟨w.heap.size + 1, 1, none⟩ = some (.int .i64 E2) ∧ W.heap[w.heap.size + 2]? = some (.cells #[.pointer none, .int .i64 0] 53 (0, 0)) ∧ IntB W g1 n1 ∧ IntB W g2 n2 ∧ w.heap.size < W.heap.size ∧ w.heap.size + 1 < W.heap.size ∧ w.heap.size + 2 < W.heap.size ∧ Within w W) 12 (.firm 1 (.firm 2 (.firm 5 (.firm 6 (.firm 10 (.two 0 (.one 3 (.firm 4 (.one 7 (.firm 8 (.one 9 (.firm 11 (.one 12 .nil))))))) 3 (.firm 4 (.two 0 (.one 7 (.firm 8 (.one 9 (.firm 11 (.one 12 .nil))))) 7 (.firm 8 (.one 0 (.one 9 (.firm 11 (.one 12 .nil))))))))))))) (by kernel_rfl) (by kernel_rfl) ⟨by go_simp, by go_simp, by go_simp, by go_simp, (by have := heap_alloc_new ((w.alloc (.cells #[.pointer (some ⟨g1, 0, none⟩), .int .i64 E1] 53)).alloc (.cells #[.pointer (some ⟨g2, 0, none⟩), .int .i64 E2] 53)) (.cells #[.pointer none, .int .i64 0] 53); simpa using this), hI1.of (by repeat (first | with_reducible exact Within.refl _ | with_reducible assumption | with_reducible refine Within.alloc ?_ _ | with_reducible refine Within.drew ?_ | with_reducible refine Within.drewN ?_ _ | with_reducible refine Within.setCell ?_ (by first | (simp; done) | (simp; omega)) _ | with_reducible refine Within.trans ?_ (by assumption))), hI2.of (by repeat (first | with_reducible exact Within.refl _ | with_reducible assumption | with_reducible refine Within.alloc ?_ _ | with_reducible refine Within.drew ?_ | with_reducible refine Within.drewN ?_ _ | with_reducible refine Within.setCell ?_ (by first | (simp; done) | (simp; omega)) _ | with_reducible refine Within.trans ?_ (by assumption))), by first | (simp; done) | (simp; omega), by first | (simp; done) | (simp; omega), by first | (simp; done) | (simp; omega), (by repeat (first | with_reducible exact Within.refl _ | with_reducible assumption | with_reducible refine Within.alloc ?_ _ | with_reducible refine Within.drew ?_ | with_reducible refine Within.drewN ?_ _ | with_reducible refine Within.setCell ?_ (by first | (simp; done) | (simp; omega)) _ | with_reducible refine Within.trans ?_ (by assumption)))⟩ ?_
  rintro w0 ⟨c0, c1, d0, d1, hz, hI1, hI2, l0, l1, l2, hw0⟩
  try simp only [Act.put, List.setIfInBounds_toArray, List.set_cons_zero, List.set_cons_succ]
  apply sch_firm rfl rfl (by repeat (first | with_reducible exact Within.refl _ | with_reducible assumption | with_reducible refine Within.alloc ?_ _ | with_reducible refine Within.drew ?_ | with_reducible refine Within.drewN ?_ _ | with_reducible refine Within.setCell ?_ (by first | (simp; done) | (simp; omega)) _ | with_reducible refine Within.trans ?_ (by assumption)))
  · intro wq hq
    have hcq := hq.cells
    clear hq
    go_simp
    first | rfl | (trace_state; fail)
  try simp only [Act.put, List.setIfInBounds_toArray, List.set_cons_zero, List.set_cons_succ]
  apply sch_firm rfl rfl (by repeat (first | with_reducible exact Within.refl _ | with_reducible assumption | with_reducible refine Within.alloc ?_ _ | with_reducible refine Within.drew ?_ | with_reducible refine Within.drewN ?_ _ | with_reducible refine Within.setCell ?_ (by first | (simp; done) | (simp; omega)) _ | with_reducible refine Within.trans ?_ (by assumption)))
  · intro wq hq
    have hcq := hq.cells
    clear hq
    go_simp
    first | rfl | (trace_state; fail)
  try simp only [Act.put, List.setIfInBounds_toArray, List.set_cons_zero, List.set_cons_succ]
  apply sch_firm rfl rfl (by repeat (first | with_reducible exact Within.refl _ | with_reducible assumption | with_reducible refine Within.alloc ?_ _ | with_reducible refine Within.drew ?_ | with_reducible refine Within.drewN ?_ _ | with_reducible refine Within.setCell ?_ (by first | (simp; done) | (simp; omega)) _ | with_reducible refine Within.trans ?_ (by assumption)))
  · intro wq hq
    have hcq := hq.cells
    clear hq
    go_simp
    first | rfl | (trace_state; fail)
  try simp only [Act.put, List.setIfInBounds_toArray, List.set_cons_zero, List.set_cons_succ]
  apply sch_firm rfl rfl (by repeat (first | with_reducible exact Within.refl _ | with_reducible assumption | with_reducible refine Within.alloc ?_ _ | with_reducible refine Within.drew ?_ | with_reducible refine Within.drewN ?_ _ | with_reducible refine Within.setCell ?_ (by first | (simp; done) | (simp; omega)) _ | with_reducible refine Within.trans ?_ (by assumption)))
  · intro wq hq
    have hcq := hq.cells
    clear hq
    go_simp
    first | rfl | (trace_state; fail)
  try simp only [Act.put, List.setIfInBounds_toArray, List.set_cons_zero, List.set_cons_succ]
  apply sch_firm rfl rfl (by repeat (first | with_reducible exact Within.refl _ | with_reducible assumption | with_reducible refine Within.alloc ?_ _ | with_reducible refine Within.drew ?_ | with_reducible refine Within.drewN ?_ _ | with_reducible refine Within.setCell ?_ (by first | (simp; done) | (simp; omega)) _ | with_reducible refine Within.trans ?_ (by assumption)))
  · intro wq hq
    have hcq := hq.cells
    clear hq
    go_simp
    first | rfl | (trace_state; fail)
  try simp only [Act.put, List.setIfInBounds_toArray, List.set_cons_zero, List.set_cons_succ]
  refine sch_two rfl rfl rfl rfl (fun K hK => ?_) (fun K hK => ?_)
  · refine wp_new_int rfl ?_
    intro z w4 hT hb4 hge
    have hz0 : w0.heap.size ≤ z := Nat.le_trans (Below.size (by show Within w0 _; repeat (first | with_reducible exact Within.refl _ | with_reducible assumption | with_reducible refine Within.alloc ?_ _ | with_reducible refine Within.drew ?_ | with_reducible refine Within.drewN ?_ _ | with_reducible refine Within.setCell ?_ (by first | (simp; done) | (simp; omega)) _ | with_reducible refine Within.trans ?_ (by assumption)))) hge
    refine hK _ _ (by repeat (first | with_reducible exact Within.refl _ | with_reducible assumption | with_reducible refine Within.alloc ?_ _ | with_reducible refine Within.drew ?_ | with_reducible refine Within.drewN ?_ _ | with_reducible refine Within.setCell ?_ (by first | (simp; done) | (simp; omega)) _ | with_reducible refine Within.trans ?_ (by assumption))) ?_
    clear hK K
    try simp only [Act.put, List.setIfInBounds_toArray, List.set_cons_zero, List.set_cons_succ]
    refine sch_one rfl rfl (fun K hK => ?_)
    go_simp
    refine (L1.out _ (IntB.of hI1 (by repeat (first | with_reducible exact Within.refl _ | with_reducible assumption | with_reducible refine Within.alloc ?_ _ | with_reducible refine Within.drew ?_ | with_reducible refine Within.drewN ?_ _ | with_reducible refine Within.setCell ?_ (by first | (simp; done) | (simp; omega)) _ | with_reducible refine Within.trans ?_ (by assumption))))).mono ?_; rintro e5 w5 ⟨q1, rfl, hA1, hb5⟩
    refine hK _ _ (fun _ => (by repeat (first | with_reducible exact Within.refl _ | with_reducible assumption | with_reducible refine Within.alloc ?_ _ | with_reducible refine Within.drew ?_ | with_reducible refine Within.drewN ?_ _ | with_reducible refine Within.setCell ?_ (by first | (simp; done) | (simp; omega)) _ | with_reducible refine Within.trans ?_ (by assumption)))) ?_
    clear hK K
    try simp only [Act.put, List.setIfInBounds_toArray, List.set_cons_zero, List.set_cons_succ]
    apply sch_firm rfl rfl (by repeat (first | with_reducible exact Within.refl _ | with_reducible assumption | with_reducible refine Within.alloc ?_ _ | with_reducible refine Within.drew ?_ | with_reducible refine Within.drewN ?_ _ | with_reducible refine Within.setCell ?_ (by first | (simp; done) | (simp; omega)) _ | with_reducible refine Within.trans ?_ (by assumption)))
    · intro wq hq
      have hcq := hq.cells
      clear hq
      go_simp
      first | rfl | (trace_state; fail)
    try simp only [Act.put, List.setIfInBounds_toArray, List.set_cons_zero, List.set_cons_succ]
    refine sch_one rfl rfl (fun K hK => ?_)
    go_simp
    refine (L2.out _ (IntB.of hI2 (by repeat (first | with_reducible exact Within.refl _ | with_reducible assumption | with_reducible refine Within.alloc ?_ _ | with_reducible refine Within.drew ?_ | with_reducible refine Within.drewN ?_ _ | with_reducible refine Within.setCell ?_ (by first | (simp; done) | (simp; omega)) _ | with_reducible refine Within.trans ?_ (by assumption))))).mono ?_; rintro e6 w6 ⟨q2, rfl, hA2, hb6⟩
    refine hK _ _ (fun _ => (by repeat (first | with_reducible exact Within.refl _ | with_reducible assumption | with_reducible refine Within.alloc ?_ _ | with_reducible refine Within.drew ?_ | with_reducible refine Within.drewN ?_ _ | with_reducible refine Within.setCell ?_ (by first | (simp; done) | (simp; omega)) _ | with_reducible refine Within.trans ?_ (by assumption)))) ?_
    clear hK K
    try simp only [Act.put, List.setIfInBounds_toArray, List.set_cons_zero, List.set_cons_succ]
    apply sch_firm rfl rfl (by repeat (first | with_reducible exact Within.refl _ | with_reducible assumption | with_reducible refine Within.alloc ?_ _ | with_reducible refine Within.drew ?_ | with_reducible refine Within.drewN ?_ _ | with_reducible refine Within.setCell ?_ (by first | (simp; done) | (simp; omega)) _ | with_reducible refine Within.trans ?_ (by assumption)))
    · intro wq hq
      have hcq := hq.cells
      clear hq
      go_simp
      first | rfl | (trace_state; fail)
    try simp only [Act.put, List.setIfInBounds_toArray, List.set_cons_zero, List.set_cons_succ]
    refine sch_one rfl rfl (fun K hK => ?_)
    go_simp
    refine (BAdd z q1 q2 v1 v2 HV.out.1 HV.out.2 _ (IntTy.of hT (by repeat (first | with_reducible exact Within.refl _ | with_reducible assumption | with_reducible refine Within.alloc ?_ _ | with_reducible refine Within.drew ?_ | with_reducible refine Within.drewN ?_ _ | with_reducible refine Within.setCell ?_ (by first | (simp; done) | (simp; omega)) _ | with_reducible refine Within.trans ?_ (by assumption)))) (IntB.of hA1 (by repeat (first | with_reducible exact Within.refl _ | with_reducible assumption | with_reducible refine Within.alloc ?_ _ | with_reducible refine Within.drew ?_ | with_reducible refine Within.drewN ?_ _ | with_reducible refine Within.setCell ?_ (by first | (simp; done) | (simp; omega)) _ | with_reducible refine Within.trans ?_ (by assumption)))) (IntB.of hA2 (by repeat (first | with_reducible exact Within.refl _ | with_reducible assumption | with_reducible refine Within.alloc ?_ _ | with_reducible refine Within.drew ?_ | with_reducible refine Within.drewN ?_ _ | with_reducible refine Within.setCell ?_ (by first | (simp; done) | (simp; omega)) _ | with_reducible refine Within.trans ?_ (by assumption))))).mono ?_; rintro e7 w7 ⟨rfl, hJ, hG⟩
    have hv7 : Within w0 w7 := Within.grown (by repeat (first | with_reducible exact Within.refl _ | with_reducible assumption | with_reducible refine Within.alloc ?_ _ | with_reducible refine Within.drew ?_ | with_reducible refine Within.drewN ?_ _ | with_reducible refine Within.setCell ?_ (by first | (simp; done) | (simp; omega)) _ | with_reducible refine Within.trans ?_ (by assumption))) hG hz0
    have hz5 := (hv7.block _ l2).trans hz
    obtain ⟨y0, y1, yf⟩ := ex_cells hz5
    have yl := Nat.lt_of_lt_of_le l2 hv7.sizes
    refine hK _ _ (fun _ => (by repeat (first | with_reducible exact Within.refl _ | with_reducible assumption | with_reducible refine Within.alloc ?_ _ | with_reducible refine Within.drew ?_ | with_reducible refine Within.drewN ?_ _ | with_reducible refine Within.setCell ?_ (by first | (simp; done) | (simp; omega)) _ | with_reducible refine Within.trans ?_ (by assumption)))) ?_
    clear hK K
    try simp only [Act.put, List.setIfInBounds_toArray, List.set_cons_zero, List.set_cons_succ]
    apply sch_firm rfl rfl (by repeat (first | with_reducible exact Within.refl _ | with_reducible assumption | with_reducible refine Within.alloc ?_ _ | with_reducible refine Within.drew ?_ | with_reducible refine Within.drewN ?_ _ | with_reducible refine Within.setCell ?_ (by first | (simp; done) | (simp; omega)) _ | with_reducible refine Within.trans ?_ (by assumption)))
    · intro wq hq
      have hcq := hq.cells
      clear hq
      go_simp
      first | rfl | (trace_state; fail)
    try simp only [Act.put, List.setIfInBounds_toArray, List.set_cons_zero, List.set_cons_succ]
    refine sch_one rfl rfl (fun K hK => ?_)
    go_simp
    refine hK _ _ (fun h => absurd h (by decide)) ?_
    clear hK K
    try simp only [Act.put, List.setIfInBounds_toArray, List.set_cons_zero, List.set_cons_succ]
    refine sch_nil ?_
    obtain ⟨r0, r1, rI⟩ := ex_set (E := e) hz5 hJ (show z ≠ (w.heap.size + 2) by omega)
    have rl : (w.heap.size + 2) < w7.heap.size := by have := yl; omega
    go_wp2
    refine bodyPost_ret (v := .agg #[.pointer (some ⟨z, 0, none⟩), .int .i64 e]) (by simp [results, Tryz.results48, go_sem, r0, r1, rl]) rfl ⟨z, rfl, rI, ?_⟩
    exact ((hw0.trans hv7).setCell (by show _ ≤ (w.heap.size + 2); omega) _).setCell (by show _ ≤ (w.heap.size + 2); omega) _
  · go_simp
    refine (L1.out _ (IntB.of hI1 (by repeat (first | with_reducible exact Within.refl _ | with_reducible assumption | with_reducible refine Within.alloc ?_ _ | with_reducible refine Within.drew ?_ | with_reducible refine Within.drewN ?_ _ | with_reducible refine Within.setCell ?_ (by first | (simp; done) | (simp; omega)) _ | with_reducible refine Within.trans ?_ (by assumption))))).mono ?_; rintro e5 w5 ⟨q1, rfl, hA1, hb5⟩
    refine hK _ _ (by repeat (first | with_reducible exact Within.refl _ | with_reducible assumption | with_reducible refine Within.alloc ?_ _ | with_reducible refine Within.drew ?_ | with_reducible refine Within.drewN ?_ _ | with_reducible refine Within.setCell ?_ (by first | (simp; done) | (simp; omega)) _ | with_reducible refine Within.trans ?_ (by assumption))) ?_
    clear hK K
    try simp only [Act.put, List.setIfInBounds_toArray, List.set_cons_zero, List.set_cons_succ]
    apply sch_firm rfl rfl (by repeat (first | with_reducible exact Within.refl _ | with_reducible assumption | with_reducible refine Within.alloc ?_ _ | with_reducible refine Within.drew ?_ | with_reducible refine Within.drewN ?_ _ | with_reducible refine Within.setCell ?_ (by first | (simp; done) | (simp; omega)) _ | with_reducible refine Within.trans ?_ (by assumption)))
    · intro wq hq
      have hcq := hq.cells
      clear hq
      go_simp
      first | rfl | (trace_state; fail)
    try simp only [Act.put, List.setIfInBounds_toArray, List.set_cons_zero, List.set_cons_succ]
    refine sch_two rfl rfl rfl rfl (fun K hK => ?_) (fun K hK => ?_)
    · refine wp_new_int rfl ?_
      intro z w4 hT hb4 hge
      have hz0 : w0.heap.size ≤ z := Nat.le_trans (Below.size (by show Within w0 _; repeat (first | with_reducible exact Within.refl _ | with_reducible assumption | with_reducible refine Within.alloc ?_ _ | with_reducible refine Within.drew ?_ | with_reducible refine Within.drewN ?_ _ | with_reducible refine Within.setCell ?_ (by first | (simp; done) | (simp; omega)) _ | with_reducible refine Within.trans ?_ (by assumption)))) hge
      refine hK _ _ (by repeat (first | with_reducible exact Within.refl _ | with_reducible assumption | with_reducible refine Within.alloc ?_ _ | with_reducible refine Within.drew ?_ | with_reducible refine Within.drewN ?_ _ | with_reducible refine Within.setCell ?_ (by first | (simp; done) | (simp; omega)) _ | with_reducible refine Within.trans ?_ (by assumption))) ?_
      clear hK K
      try simp only [Act.put, List.setIfInBounds_toArray, List.set_cons_zero, List.set_cons_succ]
      refine sch_one rfl rfl (fun K hK => ?_)
      go_simp
      refine (L2.out _ (IntB.of hI2 (by repeat (first | with_reducible exact Within.refl _ | with_reducible assumption | with_reducible refine Within.alloc ?_ _ | with_reducible refine Within.drew ?_ | with_reducible refine Within.drewN ?_ _ | with_reducible refine Within.setCell ?_ (by first | (simp; done) | (simp; omega)) _ | with_reducible refine Within.trans ?_ (by assumption))))).mono ?_; rintro e6 w6 ⟨q2, rfl, hA2, hb6⟩
      refine hK _ _ (fun _ => (by repeat (first | with_reducible exact Within.refl _ | with_reducible assumption | with_reducible refine Within.alloc ?_ _ | with_reducible refine Within.drew ?_ | with_reducible refine Within.drewN ?_ _ | with_reducible refine Within.setCell ?_ (by first | (simp; done) | (simp; omega)) _ | with_reducible refine Within.trans ?_ (by assumption)))) ?_
      clear hK K
      try simp only [Act.put, List.setIfInBounds_toArray, List.set_cons_zero, List.set_cons_succ]
      apply sch_firm rfl rfl (by repeat (first | with_reducible exact Within.refl _ | with_reducible assumption | with_reducible refine Within.alloc ?_ _ | with_reducible refine Within.drew ?_ | with_reducible refine Within.drewN ?_ _ | with_reducible refine Within.setCell ?_ (by first | (simp; done) | (simp; omega)) _ | with_reducible refine Within.trans ?_ (by assumption)))
      · intro wq hq
        have hcq := hq.cells
        clear hq
        go_simp
        first | rfl | (trace_state; fail)
      try simp only [Act.put, List.setIfInBounds_toArray, List.set_cons_zero, List.set_cons_succ]
      refine sch_one rfl rfl (fun K hK => ?_)
      go_simp
      refine (BAdd z q1 q2 v1 v2 HV.out.1 HV.out.2 _ (IntTy.of hT (by repeat (first | with_reducible exact Within.refl _ | with_reducible assumption | with_reducible refine Within.alloc ?_ _ | with_reducible refine Within.drew ?_ | with_reducible refine Within.drewN ?_ _ | with_reducible refine Within.setCell ?_ (by first | (simp; done) | (simp; omega)) _ | with_reducible refine Within.trans ?_ (by assumption)))) (IntB.of hA1 (by repeat (first | with_reducible exact Within.refl _ | with_reducible assumption | with_reducible refine Within.alloc ?_ _ | with_reducible refine Within.drew ?_ | with_reducible refine Within.drewN ?_ _ | with_reducible refine Within.setCell ?_ (by first | (simp; done) | (simp; omega)) _ | with_reducible refine Within.trans ?_ (by assumption)))) (IntB.of hA2 (by repeat (first | with_reducible exact Within.refl _ | with_reducible assumption | with_reducible refine Within.alloc ?_ _ | with_reducible refine Within.drew ?_ | with_reducible refine Within.drewN ?_ _ | with_reducible refine Within.setCell ?_ (by first | (simp; done) | (simp; omega)) _ | with_reducible refine Within.trans ?_ (by assumption))))).mono ?_; rintro e7 w7 ⟨rfl, hJ, hG⟩
      have hv7 : Within w0 w7 := Within.grown (by repeat (first | with_reducible exact Within.refl _ | with_reducible assumption | with_reducible refine Within.alloc ?_ _ | with_reducible refine Within.drew ?_ | with_reducible refine Within.drewN ?_ _ | with_reducible refine Within.setCell ?_ (by first | (simp; done) | (simp; omega)) _ | with_reducible refine Within.trans ?_ (by assumption))) hG hz0
      have hz5 := (hv7.block _ l2).trans hz
      obtain ⟨y0, y1, yf⟩ := ex_cells hz5
      have yl := Nat.lt_of_lt_of_le l2 hv7.sizes
      refine hK _ _ (fun _ => (by repeat (first | with_reducible exact Within.refl _ | with_reducible assumption | with_reducible refine Within.alloc ?_ _ | with_reducible refine Within.drew ?_ | with_reducible refine Within.drewN ?_ _ | with_reducible refine Within.setCell ?_ (by first | (simp; done) | (simp; omega)) _ | with_reducible refine Within.trans ?_ (by assumption)))) ?_
      clear hK K
      try simp only [Act.put, List.setIfInBounds_toArray, List.set_cons_zero, List.set_cons_succ]
      apply sch_firm rfl rfl (by repeat (first | with_reducible exact Within.refl _ | with_reducible assumption | with_reducible refine Within.alloc ?_ _ | with_reducible refine Within.drew ?_ | with_reducible refine Within.drewN ?_ _ | with_reducible refine Within.setCell ?_ (by first | (simp; done) | (simp; omega)) _ | with_reducible refine Within.trans ?_ (by assumption)))
      · intro wq hq
        have hcq := hq.cells
        clear hq
        go_simp
        first | rfl | (trace_state; fail)
      try simp only [Act.put, List.setIfInBounds_toArray, List.set_cons_zero, List.set_cons_succ]
      refine sch_one rfl rfl (fun K hK => ?_)
      go_simp
      refine hK _ _ (fun h => absurd h (by decide)) ?_
      clear hK K
      try simp only [Act.put, List.setIfInBounds_toArray, List.set_cons_zero, List.set_cons_succ]
      refine sch_nil ?_
      obtain ⟨r0, r1, rI⟩ := ex_set (E := e) hz5 hJ (show z ≠ (w.heap.size + 2) by omega)
      have rl : (w.heap.size + 2) < w7.heap.size := by have := yl; omega
      go_wp2
      refine bodyPost_ret (v := .agg #[.pointer (some ⟨z, 0, none⟩), .int .i64 e]) (by simp [results, Tryz.results48, go_sem, r0, r1, rl]) rfl ⟨z, rfl, rI, ?_⟩
      exact ((hw0.trans hv7).setCell (by show _ ≤ (w.heap.size + 2); omega) _).setCell (by show _ ≤ (w.heap.size + 2); omega) _
    · go_simp
      refine (L2.out _ (IntB.of hI2 (by repeat (first | with_reducible exact Within.refl _ | with_reducible assumption | with_reducible refine Within.alloc ?_ _ | with_reducible refine Within.drew ?_ | with_reducible refine Within.drewN ?_ _ | with_reducible refine Within.setCell ?_ (by first | (simp; done) | (simp; omega)) _ | with_reducible refine Within.trans ?_ (by assumption))))).mono ?_; rintro e6 w6 ⟨q2, rfl, hA2, hb6⟩
      refine hK _ _ (by repeat (first | with_reducible exact Within.refl _ | with_reducible assumption | with_reducible refine Within.alloc ?_ _ | with_reducible refine Within.drew ?_ | with_reducible refine Within.drewN ?_ _ | with_reducible refine Within.setCell ?_ (by first | (simp; done) | (simp; omega)) _ | with_reducible refine Within.trans ?_ (by assumption))) ?_
      clear hK K
      try simp only [Act.put, List.setIfInBounds_toArray, List.set_cons_zero, List.set_cons_succ]
      apply sch_firm rfl rfl (by repeat (first | with_reducible exact Within.refl _ | with_reducible assumption | with_reducible refine Within.alloc ?_ _ | with_reducible refine Within.drew ?_ | with_reducible refine Within.drewN ?_ _ | with_reducible refine Within.setCell ?_ (by first | (simp; done) | (simp; omega)) _ | with_reducible refine Within.trans ?_ (by assumption)))
      · intro wq hq
        have hcq := hq.cells
        clear hq
        go_simp
        first | rfl | (trace_state; fail)
      try simp only [Act.put, List.setIfInBounds_toArray, List.set_cons_zero, List.set_cons_succ]
      refine sch_one rfl rfl (fun K hK => ?_)
      refine wp_new_int rfl ?_
      intro z w4 hT hb4 hge
      have hz0 : w0.heap.size ≤ z := Nat.le_trans (Below.size (by show Within w0 _; repeat (first | with_reducible exact Within.refl _ | with_reducible assumption | with_reducible refine Within.alloc ?_ _ | with_reducible refine Within.drew ?_ | with_reducible refine Within.drewN ?_ _ | with_reducible refine Within.setCell ?_ (by first | (simp; done) | (simp; omega)) _ | with_reducible refine Within.trans ?_ (by assumption)))) hge
      refine hK _ _ (fun _ => (by repeat (first | with_reducible exact Within.refl _ | with_reducible assumption | with_reducible refine Within.alloc ?_ _ | with_reducible refine Within.drew ?_ | with_reducible refine Within.drewN ?_ _ | with_reducible refine Within.setCell ?_ (by first | (simp; done) | (simp; omega)) _ | with_reducible refine Within.trans ?_ (by assumption)))) ?_
      clear hK K
      try simp only [Act.put, List.setIfInBounds_toArray, List.set_cons_zero, List.set_cons_succ]
      refine sch_one rfl rfl (fun K hK => ?_)
      go_simp
      refine (BAdd z q1 q2 v1 v2 HV.out.1 HV.out.2 _ (IntTy.of hT (by repeat (first | with_reducible exact Within.refl _ | with_reducible assumption | with_reducible refine Within.alloc ?_ _ | with_reducible refine Within.drew ?_ | with_reducible refine Within.drewN ?_ _ | with_reducible refine Within.setCell ?_ (by first | (simp; done) | (simp; omega)) _ | with_reducible refine Within.trans ?_ (by assumption)))) (IntB.of hA1 (by repeat (first | with_reducible exact Within.refl _ | with_reducible assumption | with_reducible refine Within.alloc ?_ _ | with_reducible refine Within.drew ?_ | with_reducible refine Within.drewN ?_ _ | with_reducible refine Within.setCell ?_ (by first | (simp; done) | (simp; omega)) _ | with_reducible refine Within.trans ?_ (by assumption)))) (IntB.of hA2 (by repeat (first | with_reducible exact Within.refl _ | with_reducible assumption | with_reducible refine Within.alloc ?_ _ | with_reducible refine Within.drew ?_ | with_reducible refine Within.drewN ?_ _ | with_reducible refine Within.setCell ?_ (by first | (simp; done) | (simp; omega)) _ | with_reducible refine Within.trans ?_ (by assumption))))).mono ?_; rintro e7 w7 ⟨rfl, hJ, hG⟩
      have hv7 : Within w0 w7 := Within.grown (by repeat (first | with_reducible exact Within.refl _ | with_reducible assumption | with_reducible refine Within.alloc ?_ _ | with_reducible refine Within.drew ?_ | with_reducible refine Within.drewN ?_ _ | with_reducible refine Within.setCell ?_ (by first | (simp; done) | (simp; omega)) _ | with_reducible refine Within.trans ?_ (by assumption))) hG hz0
      have hz5 := (hv7.block _ l2).trans hz
      obtain ⟨y0, y1, yf⟩ := ex_cells hz5
      have yl := Nat.lt_of_lt_of_le l2 hv7.sizes
      refine hK _ _ (fun _ => (by repeat (first | with_reducible exact Within.refl _ | with_reducible assumption | with_reducible refine Within.alloc ?_ _ | with_reducible refine Within.drew ?_ | with_reducible refine Within.drewN ?_ _ | with_reducible refine Within.setCell ?_ (by first | (simp; done) | (simp; omega)) _ | with_reducible refine Within.trans ?_ (by assumption)))) ?_
      clear hK K
      try simp only [Act.put, List.setIfInBounds_toArray, List.set_cons_zero, List.set_cons_succ]
      apply sch_firm rfl rfl (by repeat (first | with_reducible exact Within.refl _ | with_reducible assumption | with_reducible refine Within.alloc ?_ _ | with_reducible refine Within.drew ?_ | with_reducible refine Within.drewN ?_ _ | with_reducible refine Within.setCell ?_ (by first | (simp; done) | (simp; omega)) _ | with_reducible refine Within.trans ?_ (by assumption)))
      · intro wq hq
        have hcq := hq.cells
        clear hq
        go_simp
        first | rfl | (trace_state; fail)
      try simp only [Act.put, List.setIfInBounds_toArray, List.set_cons_zero, List.set_cons_succ]
      refine sch_one rfl rfl (fun K hK => ?_)
      go_simp
      refine hK _ _ (fun h => absurd h (by decide)) ?_
      clear hK K
      try simp only [Act.put, List.setIfInBounds_toArray, List.set_cons_zero, List.set_cons_succ]
      refine sch_nil ?_
      obtain ⟨r0, r1, rI⟩ := ex_set (E := e) hz5 hJ (show z ≠ (w.heap.size + 2) by omega)
      have rl : (w.heap.size + 2) < w7.heap.size := by have := yl; omega
      go_wp2
      refine bodyPost_ret (v := .agg #[.pointer (some ⟨z, 0, none⟩), .int .i64 e]) (by simp [results, Tryz.results48, go_sem, r0, r1, rl]) rfl ⟨z, rfl, rI, ?_⟩
      exact ((hw0.trans hv7).setCell (by show _ ≤ (w.heap.size + 2); omega) _).setCell (by show _ ≤ (w.heap.size + 2); omega) _
end Go.Proofs.YtjmaggfddinbkaaGreatDoor
end

section
namespace Go.Proofs.YtjmaggfddinbkaaGreatDoor
open Go.RowKit
def valE (n E : Int) (L : Nat) : Int := n * 2 ^ (E + L).toNat
theorem val_low {n E e : Int} {L k : Nat} (he : E - e = (k : Int)) (hL : -(L : Int) ≤ e) : valE (n * 2 ^ k) e L = valE n E L := by
  unfold valE
  rw [Int.mul_assoc, ← Int.pow_add, show k + (e + L).toNat = (E + L).toNat by omega]
theorem val_zero (E : Int) (L : Nat) : valE 0 E L = 0 := by unfold valE; rw [Int.zero_mul]
theorem val_add (n m E : Int) (L : Nat) : valE n E L + valE m E L = valE (n + m) E L := by unfold valE; rw [Int.add_mul]
theorem val_neg (n E : Int) (L : Nat) : valE (-n) E L = -valE n E L := by unfold valE; rw [Int.neg_mul]
theorem val_len (n E : Int) (L : Nat) : (dg n.natAbs).length ≤ (dg (valE n E L).natAbs).length := by
  apply dg_len_mono
  unfold valE
  rw [Int.natAbs_mul, Int.natAbs_pow]
  exact Nat.le_mul_of_pos_right _ (Nat.pow_pos (by decide))
theorem val_sign (n E : Int) (L : Nat) : (valE n E L).sign = n.sign := by
  unfold valE
  rw [Int.sign_mul, Int.sign_eq_one_of_pos (Int.pow_pos (by decide)), Int.mul_one]
def ExW (L U : Nat) (z : Int) (W : World) (e : Ending) (w' : World) : Prop := ∃ h n E, e = .returned (.agg #[.pointer (some ⟨h, 0, none⟩), .int .i64 E]) ∧ IntB w' h n ∧ -(L : Int) ≤ E ∧ E ≤ (U : Int) ∧ valE n E L = z ∧ Within W w'
theorem ExS.w {W w' : World} {n E : Int} {e : Ending} (L U : Nat) (h : ExS W n E e w') (h1 : -(L : Int) ≤ E) (h2 : E ≤ (U : Int)) : ExW L U (valE n E L) W e w' := by
  obtain ⟨g, k1, k2, k3⟩ := h
  exact ⟨g, n, E, k1, k2, h1, h2, rfl, k3⟩
theorem Xadd (n1 n2 E1 E2 : Int) (g1 g2 L U : Nat) (hL : L ≤ 9000) (hU : U ≤ 6000) (a1 : -(L : Int) ≤ E1) (a2 : E1 ≤ (U : Int)) (b1 : -(L : Int) ≤ E2) (b2 : E2 ≤ (U : Int)) (hl1 : (dg n1.natAbs).length ≤ 900) (hl2 : (dg n2.natAbs).length ≤ 900) (w : World) (hI1 : IntB w g1 n1) (hI2 : IntB w g2 n2) : Calls Tryz.prog 48 #[.agg #[.pointer (some ⟨g1, 0, none⟩), .int .i64 E1], .agg #[.pointer (some ⟨g2, 0, none⟩), .int .i64 E2]] w (ExW L U (valE n1 E1 L + valE n2 E2 L) w) := by
  by_cases h1 : n1 = 0
  · subst h1
    rw [val_zero, Int.zero_add]
    exact (Xadd_l n2 E1 E2 _ g1 g2 rfl w hI1 hI2).mono fun e w' h => h.w L U b1 b2
  · by_cases h2 : n2 = 0
    · subst h2
      rw [val_zero, Int.add_zero]
      exact (Xadd_r n1 E1 E2 _ g1 g2 rfl h1 w hI1 hI2).mono fun e w' h => h.w L U a1 a2
    · obtain ⟨e, he⟩ : ∃ e, min E1 E2 = e := ⟨_, rfl⟩
      obtain ⟨k1, hk1⟩ : ∃ k1 : Nat, E1 - e = (k1 : Int) := ⟨(E1 - e).toNat, by omega⟩
      obtain ⟨k2, hk2⟩ : ∃ k2 : Nat, E2 - e = (k2 : Int) := ⟨(E2 - e).toNat, by omega⟩
      have len : ∀ (n : Int) (k : Nat), k ≤ 16000 → (dg n.natAbs).length ≤ 900 → (dg (n * 2 ^ k).natAbs).length ≤ 1000000 := by
        intro n k hk hl
        rw [Int.natAbs_mul, Int.natAbs_pow]
        exact Nat.le_trans (dg_shl_le (k := 500) hl (by omega)) (by decide)
      refine (Xadd_sum n1 n2 E1 E2 e g1 g2 he (n1 * 2 ^ k1) (n2 * 2 ^ k2) h1 h2 ⟨len n1 k1 (by omega) hl1, len n2 k2 (by omega) hl2⟩ (Lib.hid fun w h => Xlow n1 E1 e g1 k1 hk1 (by omega) (Nat.le_trans hl1 (by decide)) w h) (Lib.hid fun w h => Xlow n2 E2 e g2 k2 hk2 (by omega) (Nat.le_trans hl2 (by decide)) w h) w hI1 hI2).mono fun e' w' h => ?_
      have := h.w L U (by omega) (by omega)
      rw [← val_add, val_low hk1 (by omega), val_low hk2 (by omega)] at this
      exact this
set_option maxRecDepth 100000 in
set_option maxHeartbeats 600000 in
theorem Xcmp0 (n1 n2 E1 E2 z : Int) (g1 g2 L U : Nat) (CN : Hid (∀ w, IntB w g2 n2 → Calls Tryz.prog 50 #[.agg #[.pointer (some ⟨g2, 0, none⟩), .int .i64 E2]] w (ExR w (-n2) E2))) (CA : Hid (∀ h w, IntB w g1 n1 → IntB w h (-n2) → Calls Tryz.prog 48 #[.agg #[.pointer (some ⟨g1, 0, none⟩), .int .i64 E1], .agg #[.pointer (some ⟨h, 0, none⟩), .int .i64 E2]] w (ExW L U z w))) (w : World) (hI1 : IntB w g1 n1) (hI2 : IntB w g2 n2) : Calls Tryz.prog 30 #[.agg #[.pointer (some ⟨g1, 0, none⟩), .int .i64 E1], .agg #[.pointer (some ⟨g2, 0, none⟩), .int .i64 E2]] w (fun e w' => e = .returned (.int .i64 z.sign) ∧ Within w w') := by
  go_enter Tryz.func30, Tryz.ntmps30
  go_wp2
  refine wp_region_schG (fun W => W.cell? ⟨w.heap.size, 0, none⟩ = some (.pointer (some ⟨g1, 0, none⟩)) ∧ W.cell? ⟨w.heap.size, 1, none⟩ = some (.int .i64 E1) ∧ W.cell? ⟨w.heap.size + 1, 0, none⟩ = some (.pointer (some ⟨g2, 0, none⟩)) ∧ W.cell? ⟨w.heap.size + 1, 1, none⟩ = some (.int .i64 E2) ∧ IntB W g1 n1 ∧ IntB W g2 n2 ∧ w.heap.size < W.heap.size ∧ w.heap.size + 1 < W.heap.size ∧ Within w W) 6 (.firm 0 (.firm 1 (.one 2 (.one 3 (.firm 4 (.one 5 (.one 6 .nil))))))) (by kernel_rfl) (by kernel_rfl) ⟨by go_simp, by go_simp, by go_simp, by go_simp, hI1.of (by repeat (first | with_reducible exact Within.refl _ | with_reducible assumption | with_reducible refine Within.alloc ?_ _ | with_reducible refine Within.drew ?_ | with_reducible refine Within.drewN ?_ _ | with_reducible refine Within.setCell ?_ (by first | (simp; done) | (simp; omega)) _ | with_reducible refine Within.trans ?_ (by assumption))), hI2.of (by repeat (first | with_reducible exact Within.refl _ | with_reducible assumption | with_reducible refine Within.alloc ?_ _ | with_reducible refine Within.drew ?_ | with_reducible refine Within.drewN ?_ _ | with_reducible refine Within.setCell ?_ (by first | (simp; done) | (simp; omega)) _ | with_reducible refine Within.trans ?_ (by assumption))), by first | (simp; done) | (simp; omega), by first | (simp; done) | (simp; omega), (by repeat (first | with_reducible exact Within.refl _ | with_reducible assumption | with_reducible refine Within.alloc ?_ _ | with_reducible refine Within.drew ?_ | with_reducible refine Within.drewN ?_ _ | with_reducible refine Within.setCell ?_ (by first | (simp; done) | (simp; omega)) _ | with_reducible refine Within.trans ?_ (by assumption)))⟩ ?_
  rintro w0 ⟨c0, c1, d0, d1, hI1, hI2, l0, l1, hw0⟩
  try simp only [Act.put, List.setIfInBounds_toArray, List.set_cons_zero, List.set_cons_succ]
  apply sch_firm rfl rfl (by repeat (first | with_reducible exact Within.refl _ | with_reducible assumption | with_reducible refine Within.alloc ?_ _ | with_reducible refine Within.drew ?_ | with_reducible refine Within.drewN ?_ _ | with_reducible refine Within.setCell ?_ (by first | (simp; done) | (simp; omega)) _ | with_reducible refine Within.trans ?_ (by assumption)))
  · intro wq hq
    have hcq := hq.cells
    clear hq
    go_simp
    first | rfl | (trace_state; fail)
  try simp only [Act.put, List.setIfInBounds_toArray, List.set_cons_zero, List.set_cons_succ]
  apply sch_firm rfl rfl (by repeat (first | with_reducible exact Within.refl _ | with_reducible assumption | with_reducible refine Within.alloc ?_ _ | with_reducible refine Within.drew ?_ | with_reducible refine Within.drewN ?_ _ | with_reducible refine Within.setCell ?_ (by first | (simp; done) | (simp; omega)) _ | with_reducible refine Within.trans ?_ (by assumption)))
  · intro wq hq
    have hcq := hq.cells
    clear hq
    go_simp
    first | rfl | (trace_state; fail)
  try simp only [Act.put, List.setIfInBounds_toArray, List.set_cons_zero, List.set_cons_succ]
  refine sch_one rfl rfl (fun K hK => ?_)
  go_simp
  refine (CN.out _ (IntB.of hI2 (by repeat (first | with_reducible exact Within.refl _ | with_reducible assumption | with_reducible refine Within.alloc ?_ _ | with_reducible refine Within.drew ?_ | with_reducible refine Within.drewN ?_ _ | with_reducible refine Within.setCell ?_ (by first | (simp; done) | (simp; omega)) _ | with_reducible refine Within.trans ?_ (by assumption))))).mono ?_; rintro e5 w5 ⟨h, rfl, hN, _, hb5⟩
  refine hK _ _ (fun _ => (by repeat (first | with_reducible exact Within.refl _ | with_reducible assumption | with_reducible refine Within.alloc ?_ _ | with_reducible refine Within.drew ?_ | with_reducible refine Within.drewN ?_ _ | with_reducible refine Within.setCell ?_ (by first | (simp; done) | (simp; omega)) _ | with_reducible refine Within.trans ?_ (by assumption)))) ?_
  clear hK K
  try simp only [Act.put, List.setIfInBounds_toArray, List.set_cons_zero, List.set_cons_succ]
  refine sch_one rfl rfl (fun K hK => ?_)
  go_simp
  refine (CA.out h _ (IntB.of hI1 (by repeat (first | with_reducible exact Within.refl _ | with_reducible assumption | with_reducible refine Within.alloc ?_ _ | with_reducible refine Within.drew ?_ | with_reducible refine Within.drewN ?_ _ | with_reducible refine Within.setCell ?_ (by first | (simp; done) | (simp; omega)) _ | with_reducible refine Within.trans ?_ (by assumption)))) (IntB.of hN (by repeat (first | with_reducible exact Within.refl _ | with_reducible assumption | with_reducible refine Within.alloc ?_ _ | with_reducible refine Within.drew ?_ | with_reducible refine Within.drewN ?_ _ | with_reducible refine Within.setCell ?_ (by first | (simp; done) | (simp; omega)) _ | with_reducible refine Within.trans ?_ (by assumption))))).mono ?_; rintro e6 w6 ⟨q, m, F, rfl, hM, _, _, hv, hb6⟩
  refine hK _ _ (fun _ => (by repeat (first | with_reducible exact Within.refl _ | with_reducible assumption | with_reducible refine Within.alloc ?_ _ | with_reducible refine Within.drew ?_ | with_reducible refine Within.drewN ?_ _ | with_reducible refine Within.setCell ?_ (by first | (simp; done) | (simp; omega)) _ | with_reducible refine Within.trans ?_ (by assumption)))) ?_
  clear hK K
  try simp only [Act.put, List.setIfInBounds_toArray, List.set_cons_zero, List.set_cons_succ]
  apply sch_firm rfl rfl (by repeat (first | with_reducible exact Within.refl _ | with_reducible assumption | with_reducible refine Within.alloc ?_ _ | with_reducible refine Within.drew ?_ | with_reducible refine Within.drewN ?_ _ | with_reducible refine Within.setCell ?_ (by first | (simp; done) | (simp; omega)) _ | with_reducible refine Within.trans ?_ (by assumption)))
  · intro wq hq
    have hcq := hq.cells
    clear hq
    go_simp
    first | rfl | (trace_state; fail)
  try simp only [Act.put, List.setIfInBounds_toArray, List.set_cons_zero, List.set_cons_succ]
  refine sch_one rfl rfl (fun K hK => ?_)
  go_simp
  refine (Bsign q m _ hM).mono ?_; rintro e7 w7 ⟨rfl, rfl⟩
  refine hK _ _ (fun _ => (by repeat (first | with_reducible exact Within.refl _ | with_reducible assumption | with_reducible refine Within.alloc ?_ _ | with_reducible refine Within.drew ?_ | with_reducible refine Within.drewN ?_ _ | with_reducible refine Within.setCell ?_ (by first | (simp; done) | (simp; omega)) _ | with_reducible refine Within.trans ?_ (by assumption)))) ?_
  clear hK K
  try simp only [Act.put, List.setIfInBounds_toArray, List.set_cons_zero, List.set_cons_succ]
  refine sch_one rfl rfl (fun K hK => ?_)
  go_simp
  refine hK _ _ (fun h => absurd h (by decide)) ?_
  clear hK K
  try simp only [Act.put, List.setIfInBounds_toArray, List.set_cons_zero, List.set_cons_succ]
  refine sch_nil ?_
  go_wp2
  go_ret
  exact ⟨ret_int (by rw [← hv, val_sign]), ((hw0.drew.trans hb5).trans hb6)⟩
theorem Xcmp (n1 n2 E1 E2 : Int) (g1 g2 L U : Nat) (hL : L ≤ 9000) (hU : U ≤ 6000) (a1 : -(L : Int) ≤ E1) (a2 : E1 ≤ (U : Int)) (b1 : -(L : Int) ≤ E2) (b2 : E2 ≤ (U : Int)) (hl1 : (dg n1.natAbs).length ≤ 900) (hl2 : (dg n2.natAbs).length ≤ 900) (w : World) (hI1 : IntB w g1 n1) (hI2 : IntB w g2 n2) : Calls Tryz.prog 30 #[.agg #[.pointer (some ⟨g1, 0, none⟩), .int .i64 E1], .agg #[.pointer (some ⟨g2, 0, none⟩), .int .i64 E2]] w (fun e w' => e = .returned (.int .i64 (valE n1 E1 L - valE n2 E2 L).sign) ∧ Within w w') :=
  Xcmp0 n1 n2 E1 E2 _ g1 g2 L U (Lib.hid fun w h => Xneg n2 E2 g2 (Nat.le_trans hl2 (by decide)) w h) (Lib.hid fun h w k1 k2 => by
    have := Xadd n1 (-n2) E1 E2 g1 h L U hL hU a1 a2 b1 b2 hl1 (by rw [Int.natAbs_neg]; exact hl2) w k1 k2
    rw [val_neg, ← Int.sub_eq_add_neg] at this
    exact this) w hI1 hI2
end Go.Proofs.YtjmaggfddinbkaaGreatDoor
end

section
namespace Go.Proofs.YtjmaggfddinbkaaGreatDoor
open Go.RowKit
theorem of_val (b : Nat) : valE (ofN b) (pExpD b) 1074 = P64.wholeI b := rfl
theorem dg_len_of {n e k : Nat} (h : n < 2 ^ e) (he : e ≤ 32 * k) : (dg n).length ≤ k :=
  dg_len_le (Nat.lt_of_lt_of_le h (by rw [show (4294967296 : Nat) = 2 ^ 32 from rfl, ← Nat.pow_mul]; exact Nat.pow_le_pow_right (by decide) he))
theorem lim80 {k : Nat} (h : k ≤ 2174) : 64 + k ≤ 32 * 80 := by omega
theorem whole_len (b : Nat) : (dg (P64.wholeI b).natAbs).length ≤ 80 := dg_len_of (P64.wholeI_lt b) (lim80 (by have := (P64.pExpD_range b).2; omega))
theorem XofW (b : Nat) (hb : b < 18446744073709551616) (w : World) : Calls Tryz.prog 44 #[.float .f64 b] w (ExW 1074 1100 (P64.wholeI b) w) := by
  refine (Xof b hb w).mono fun e w' ⟨h, h1, h2, _, h4⟩ => ⟨h, ofN b, pExpD b, h1, h2, (P64.pExpD_range b).1, (P64.pExpD_range b).2, of_val b, h4⟩
theorem ne_ex {w : World} {g b : Nat} {v : Int} {cs : Array Value} (hI : IntB w g v) (hz : w.heap[b]? = some (.cells cs 53 (0, 0))) : g ≠ b := by
  rintro rfl
  obtain ⟨A, c, hb, _⟩ := hI
  rw [hz] at hb
  injection hb with hb
  injection hb with _ h2
  exact absurd h2 (by decide)
end Go.Proofs.YtjmaggfddinbkaaGreatDoor
end

section
namespace Go.Proofs.YtjmaggfddinbkaaGreatDoor
theorem expn_snoc : ∀ (l : List Int) (e : Int), Expn (l ++ [e]) → Expn l ∧ e ≠ 0 ∧ ∀ x ∈ l, Low x e
  | [], e => fun h => ⟨trivial, h.1, fun x hx => absurd hx (by simp)⟩
  | x :: l, e => fun h => by
    obtain ⟨h1, h2, h3⟩ := h
    obtain ⟨i1, i2, i3⟩ := expn_snoc l e h3
    refine ⟨⟨h1, fun y hy => h2 y (List.mem_append_left _ hy), i1⟩, i2, fun y hy => ?_⟩
    rcases List.mem_cons.1 hy with rfl | hy
    · exact h2 e (List.mem_append_right _ (List.mem_singleton.2 rfl))
    · exact i3 y hy
def Dn : List Int → Prop
  | [] => True
  | e :: l => e ≠ 0 ∧ (∃ k, Mu k e ∧ l.sum.natAbs < 2 ^ k ∧ ∀ x ∈ l, x.natAbs < 2 ^ k) ∧ Dn l
theorem dn_of : ∀ d : List Int, Expn d.reverse → Dn d
  | [] => fun _ => trivial
  | [e] => fun h => by
    obtain ⟨_, h2, _⟩ := expn_snoc [] e h
    exact ⟨h2, ⟨0, Mu.none _, by decide, fun x hx => absurd hx (by simp)⟩, trivial⟩
  | e :: x :: d => fun h => by
    rw [List.reverse_cons] at h
    obtain ⟨h1, h2, h3⟩ := expn_snoc _ e h
    have ih := dn_of (x :: d) h1
    refine ⟨h2, ⟨zl x, h3 x (by simp), ?_, fun y hy => ?_⟩, ih⟩
    · obtain ⟨i1, ⟨k, i2, i3, _⟩, _⟩ := ih
      have hl := i2.least i1
      have hb := zl_lt x
      have hk : k ≤ zl x := by
        have := (Nat.pow_lt_pow_iff_right (show 1 < 2 by decide)).1 (Nat.lt_of_le_of_lt hl hb)
        omega
      have hm : ∃ c, 2 ^ zl x = c * 2 ^ k := ⟨2 ^ (zl x - k), by rw [← Nat.pow_add]; congr 1; omega⟩
      have := mu_beyond i2.abs hm hb
      rw [List.sum_cons]
      omega
    · obtain ⟨i1, ⟨k, i2, _, i4⟩, _⟩ := ih
      rcases List.mem_cons.1 hy with rfl | hy
      · exact zl_lt y
      · have := i2.least i1
        have := i4 y hy
        have := zl_lt x
        omega
def compD : List Int → Int → List Int → List Int × Int
  | [], Q, acc => (acc, Q)
  | e :: l, Q, acc => if Q + e - rn (Q + e) = 0 then compD l (rn (Q + e)) acc else compD l (Q + e - rn (Q + e)) (rn (Q + e) :: acc)
def compDS : List Int → Int → List Int → List Int × Int
  | [], Q, acc => (acc, Q)
  | e :: l, Q, acc => if quickL Q e = 0 then compDS l (rn (Q + e)) acc else compDS l (quickL Q e) (rn (Q + e) :: acc)
def compU : List Int → Int → List Int
  | [], Q => layZ Q []
  | g :: l, Q => layZ (g + Q - rn (g + Q)) (compU l (rn (g + Q)))
def compUS : List Int → Int → List Int
  | [], Q => layZ Q []
  | g :: l, Q => layZ (quickL g Q) (compUS l (rn (g + Q)))
def Acc : List Int → Int → Prop
  | [], _ => True
  | g :: l, W => RepZ g ∧ (∃ K, Mu K g ∧ 4503599627370496 * 2 ^ K ≤ g.natAbs ∧ W.natAbs < 2 ^ K) ∧ Acc l (W + g)
theorem rn_nz {z : Int} (h : z ≠ 0) : rn z ≠ 0 := by
  intro h0
  obtain ⟨K, _, h2, h3⟩ := rn_grid z
  rw [h0] at h2 h3
  have hp := Nat.two_pow_pos K
  by_cases hK : K = 0
  · subst hK; rw [Nat.pow_zero] at h2; omega
  · have := (h3 hK).2
    omega
theorem down_core : ∀ (l : List Int) (Q : Int) (acc : List Int), Dn l → (∀ x ∈ l, RepZ x) → RepZ Q → Q ≠ 0 → (∃ k, Mu k Q ∧ l.sum.natAbs < 2 ^ k ∧ ∀ x ∈ l, x.natAbs < 2 ^ k) → Acc acc (Q + l.sum) →
    Acc (compD l Q acc).1 (compD l Q acc).2 ∧ (compD l Q acc).2 ≠ 0 ∧ RepZ (compD l Q acc).2 ∧ (compD l Q acc).1.sum + (compD l Q acc).2 = acc.sum + Q + l.sum ∧ compDS l Q acc = compD l Q acc
  | [], Q, acc => by
    intro _ _ hQ h0 _ hA
    unfold compD compDS
    refine ⟨?_, h0, hQ, ?_, rfl⟩
    · simpa using hA
    · simp
  | e :: l, Q, acc => by
    intro hD hR hQ h0 hk hA
    obtain ⟨he0, ⟨k1, d1, d2, d3⟩, hl⟩ := hD
    obtain ⟨k, c1, _, c3⟩ := hk
    have hRe := hR e (List.mem_cons_self ..)
    have hRl : ∀ x ∈ l, RepZ x := fun x hx => hR x (List.mem_cons_of_mem _ hx)
    have hek := c3 e (List.mem_cons_self ..)
    have hQk := c1.least h0
    have hfast : e.natAbs ≤ Q.natAbs := by omega
    have hk1 : k1 ≤ k := by
      have := d1.least he0
      have := (Nat.pow_lt_pow_iff_right (show 1 < 2 by decide)).1 (Nat.lt_of_le_of_lt this hek)
      omega
    have mz : Mu k1 (Q + e) := (c1.le hk1).add d1
    have qL := quick_is hQ hRe hfast
    rw [List.sum_cons] at hA ⊢
    unfold compD compDS
    rw [qL]
    by_cases h : Q + e - rn (Q + e) = 0
    · rw [if_pos h, if_pos h]
      obtain ⟨i1, i2, i3, i4, i5⟩ := down_core l (rn (Q + e)) acc hl hRl (rn_repz _) (rn_nz (by omega)) ⟨k1, mz.rn, d2, d3⟩ (by rw [show rn (Q + e) + l.sum = Q + (e + l.sum) by omega]; exact hA)
      exact ⟨i1, i2, i3, by omega, i5⟩
    · rw [if_neg h, if_neg h]
      obtain ⟨K, g1, g2, g3, g4⟩ := rn_grid_lost h
      have mh : Mu k1 (Q + e - rn (Q + e)) := mz.sub mz.rn
      have hRh : RepZ (Q + e - rn (Q + e)) := by
        have := (err_rep hQ hRe).neg
        rwa [show -(rn (Q + e) - (Q + e)) = Q + e - rn (Q + e) by omega] at this
      have hs := hsum d2 mh h g2
      rw [Int.add_comm] at hs
      obtain ⟨i1, i2, i3, i4, i5⟩ := down_core l (Q + e - rn (Q + e)) (rn (Q + e) :: acc) hl hRl hRh h ⟨k1, mh, d2, d3⟩
        ⟨rn_repz _, ⟨K, g1, g4, hs⟩, by rw [show Q + e - rn (Q + e) + l.sum + rn (Q + e) = Q + (e + l.sum) by omega]; exact hA⟩
      rw [List.sum_cons] at i4
      exact ⟨i1, i2, i3, by omega, i5⟩
theorem up_sum : ∀ (l : List Int) (Q : Int), (compU l Q).sum = l.sum + Q
  | [], Q => by unfold compU; rw [lay_sum]; simp
  | g :: l, Q => by
    unfold compU
    rw [lay_sum, up_sum l, List.sum_cons]; omega
theorem up_mu {k : Nat} : ∀ (l : List Int) (Q : Int), (∀ g ∈ l, Mu k g) → Mu k Q → ∀ y ∈ compU l Q, Mu k y
  | [], Q => by
    intro _ hQ y hy
    unfold compU at hy
    rcases lay_mem hy with rfl | h
    · exact hQ
    · exact absurd h (by simp)
  | g :: l, Q => by
    intro hl hQ y hy
    have mz := (hl g (List.mem_cons_self ..)).add hQ
    unfold compU at hy
    rcases lay_mem hy with rfl | hy
    · exact mz.sub mz.rn
    · exact up_mu l _ (fun x hx => hl x (List.mem_cons_of_mem _ hx)) mz.rn y hy
theorem up_rep : ∀ (l : List Int) (Q : Int), (∀ g ∈ l, RepZ g) → RepZ Q → ∀ y ∈ compU l Q, RepZ y
  | [], Q => by
    intro _ hQ y hy
    unfold compU at hy
    rcases lay_mem hy with rfl | h
    · exact hQ
    · exact absurd h (by simp)
  | g :: l, Q => by
    intro hl hQ y hy
    unfold compU at hy
    rcases lay_mem hy with rfl | hy
    · have := (err_rep (hl g (List.mem_cons_self ..)) hQ).neg
      rwa [show -(rn (g + Q) - (g + Q)) = g + Q - rn (g + Q) by omega] at this
    · exact up_rep l _ (fun x hx => hl x (List.mem_cons_of_mem _ hx)) (rn_repz _) y hy
theorem acc_rep : ∀ {l : List Int} {W : Int}, Acc l W → ∀ g ∈ l, RepZ g
  | [], _, _ => fun g hg => absurd hg (by simp)
  | g :: l, W, h => fun x hx => by
    rcases List.mem_cons.1 hx with rfl | hx
    · exact h.1
    · exact acc_rep h.2.2 x hx
theorem pow_gap {j K w : Nat} (h : 2251799813685248 * 2 ^ j ≤ w) (g : w < 2 ^ K) : j ≤ K := by
  have : 2 ^ j < 2 ^ K := by omega
  have := (Nat.pow_lt_pow_iff_right (show 1 < 2 by decide)).1 this
  omega
theorem acc_mu {j : Nat} : ∀ {l : List Int} {W : Int}, Acc l W → 2251799813685248 * 2 ^ j ≤ W.natAbs → ∀ g ∈ l, Mu j g
  | [], _, _, _ => fun g hg => absurd hg (by simp)
  | g :: l, W, h, hW => fun x hx => by
    obtain ⟨_, ⟨K, h1, h2, h3⟩, h4⟩ := h
    have hj := pow_gap hW h3
    have hp : 2 ^ j ≤ 2 ^ K := Nat.pow_le_pow_right (by decide) hj
    rcases List.mem_cons.1 hx with rfl | hx
    · exact h1.le hj
    · exact acc_mu h4 (by omega) x hx
theorem up_core : ∀ (l : List Int) (Q H : Int) (k : Nat), Acc l (Q + H) → RepZ Q → Q ≠ 0 → H.natAbs < 2 ^ k → Mu k Q → (k ≠ 0 → 4503599627370496 * 2 ^ k ≤ Q.natAbs) →
    Expn (compU l Q) ∧ compUS l Q = compU l Q ∧ ∃ (ini : List Int) (last : Int) (k' : Nat), compU l Q = ini ++ [last] ∧ last ≠ 0 ∧ RepZ last ∧ (Q + H + l.sum - last).natAbs < 2 ^ k' ∧ Mu k' last ∧ (k' ≠ 0 → 4503599627370496 * 2 ^ k' ≤ last.natAbs)
  | [], Q, H, k => by
    intro _ hQ h0 h1 h2 h3
    have e : compU [] Q = [Q] := by unfold compU layZ; rw [if_neg h0]
    refine ⟨?_, rfl, [], Q, k, e, h0, hQ, ?_, h2, h3⟩
    · rw [e]; exact ⟨h0, fun y hy => absurd hy (by simp), trivial⟩
    · rw [show Q + H + ([] : List Int).sum - Q = H by simp; omega]; exact h1
  | g :: l, Q, H, k => by
    intro hA hQ h0 h1 h2 h3
    obtain ⟨hg, ⟨K, a1, a2, a3⟩, hl⟩ := hA
    have hpk := Nat.two_pow_pos k
    have hpK := Nat.two_pow_pos K
    have hle : k ≤ K := by
      by_cases hk : k = 0
      · omega
      · exact pow_gap (w := (Q + H).natAbs) (by have := h3 hk; omega) a3
    have hQK : Q.natAbs ≤ 2 ^ K := by
      have hm : Mu k ((2 : Int) ^ K) := Mu.le ⟨1, by simp⟩ hle
      have hn : ((2 : Int) ^ K).natAbs = 2 ^ K := by rw [Int.natAbs_pow]; rfl
      have := mu_abs_le h2 hm h1 (by rw [hn]; exact a3)
      rwa [hn] at this
    have hfast : Q.natAbs ≤ g.natAbs := by omega
    have hz : g + Q ≠ 0 := by omega
    have qL := quick_is hg hQ hfast
    have mz : Mu k (g + Q) := (a1.le hle).add h2
    have hsum' : ∀ h : Int, Q + H + g = rn (g + Q) + (H + h) ↔ h = g + Q - rn (g + Q) := fun h => by omega
    unfold compU compUS
    rw [qL, List.sum_cons]
    obtain ⟨h, eh⟩ : ∃ h, h = g + Q - rn (g + Q) := ⟨_, rfl⟩
    rw [← eh]
    have hacc : Acc l (rn (g + Q) + (H + h)) := by rw [← (hsum' h).2 eh]; exact hl
    have hne := rn_nz hz
    by_cases hh : h = 0
    · have hs : rn (g + Q) = g + Q := by omega
      rw [hh, Int.add_zero] at hacc
      obtain ⟨i1, i2, ini, last, k', i3, i4, i5, i6, i7⟩ := up_core l (rn (g + Q)) H k hacc (rn_repz _) hne h1 mz.rn (fun hk => by have := h3 hk; rw [hs]; omega)
      rw [hh]
      refine ⟨lay_exp i1 fun h => absurd rfl h, by rw [i2], ini, last, k', by unfold layZ; rw [if_pos rfl, i3], i4, i5, ?_, i7⟩
      rw [show Q + H + (g + l.sum) - last = rn (g + Q) + H + l.sum - last by omega]
      exact i6
    · obtain ⟨K', g1, g2, g3, g4⟩ := rn_grid_lost (z := g + Q) (by rw [← eh]; exact hh)
      rw [← eh] at g2
      have hpK' := Nat.two_pow_pos K'
      have mh : Mu k h := by rw [eh]; exact mz.sub mz.rn
      have hH := hsum h1 mh hh g2
      obtain ⟨i1, i2, ini, last, k', i3, i4, i5, i6, i7⟩ := up_core l (rn (g + Q)) (H + h) K' hacc (rn_repz _) hne hH g1 (fun _ => g4)
      refine ⟨lay_exp i1 fun hh y hy => ?_, by rw [i2], h :: ini, last, k', by unfold layZ; rw [if_neg hh, i3]; rfl, i4, i5, ?_, i7⟩
      · refine Low.of hh (by omega) (up_mu l _ (acc_mu hacc (by omega)) g1 y hy)
      · rw [show Q + H + (g + l.sum) - last = rn (g + Q) + (H + h) + l.sum - last by omega]
        exact i6
theorem comp_all {q : Int} {d : List Int} (hE : Expn (q :: d).reverse) (hR : ∀ x ∈ q :: d, RepZ x) :
    Expn (compU (compD d q []).1 (compD d q []).2) ∧ (∀ y ∈ compU (compD d q []).1 (compD d q []).2, RepZ y) ∧ compDS d q [] = compD d q [] ∧ compUS (compD d q []).1 (compD d q []).2 = compU (compD d q []).1 (compD d q []).2 ∧ (compU (compD d q []).1 (compD d q []).2).sum = (q :: d).sum ∧
    ∃ (ini : List Int) (last : Int) (k : Nat), compU (compD d q []).1 (compD d q []).2 = ini ++ [last] ∧ last ≠ 0 ∧ RepZ last ∧ ((q :: d).sum - last).natAbs < 2 ^ k ∧ Mu k last ∧ (k ≠ 0 → 4503599627370496 * 2 ^ k ≤ last.natAbs) := by
  obtain ⟨h1, h2, h3⟩ := dn_of _ hE
  obtain ⟨i1, i2, i3, i4, i5⟩ := down_core d q [] h3 (fun x hx => hR x (List.mem_cons_of_mem _ hx)) (hR q (List.mem_cons_self ..)) h1 h2 trivial
  obtain ⟨j1, j2, ini, last, k, j3, j4, j5, j6, j7⟩ := up_core (compD d q []).1 (compD d q []).2 0 0 (by rw [Int.add_zero]; exact i1) i3 i2 (by decide) (Mu.none _) (fun h => absurd rfl h)
  rw [List.sum_nil, Int.zero_add] at i4
  have es : (compD d q []).2 + 0 + (compD d q []).1.sum = (q :: d).sum := by rw [List.sum_cons]; omega
  refine ⟨j1, up_rep _ _ (acc_rep i1) i3, i5, j2, by rw [up_sum, List.sum_cons]; omega, ini, last, k, j3, j4, j5, ?_, j7⟩
  rw [← es]; exact j6
end Go.Proofs.YtjmaggfddinbkaaGreatDoor
end

section
namespace Go.Proofs.YtjmaggfddinbkaaGreatDoor
def FzL : List (Option Nat) → List Int → Prop
  | [], [] => True
  | v :: vs, z :: zs => Fz v z ∧ FzL vs zs
  | _, _ => False
theorem FzL.length : ∀ {vs : List (Option Nat)} {zs : List Int}, FzL vs zs → vs.length = zs.length
  | [], [], _ => rfl
  | _ :: _, _ :: _, h => by simp [h.2.length]
  | [], _ :: _, h => h.elim
  | _ :: _, [], h => h.elim
theorem FzL.append : ∀ {vs : List (Option Nat)} {zs : List Int} {us : List (Option Nat)} {ys : List Int}, FzL vs zs → FzL us ys → FzL (vs ++ us) (zs ++ ys)
  | [], [], _, _, _, g => g
  | _ :: _, _ :: _, _, _, h, g => ⟨h.1, h.2.append g⟩
  | [], _ :: _, _, _, h, _ => h.elim
  | _ :: _, [], _, _, h, _ => h.elim
theorem FzL.one {v : Option Nat} {z : Int} (h : Fz v z) : FzL [v] [z] := ⟨h, trivial⟩
theorem FzL.rep : ∀ {vs : List (Option Nat)} {zs : List Int}, FzL vs zs → ∀ z ∈ zs, RepZ z
  | [], [], _ => fun z hz => absurd hz (by simp)
  | _ :: _, _ :: _, h => fun z hz => by
    rcases List.mem_cons.1 hz with rfl | hz
    · exact h.1.rep
    · exact h.2.rep z hz
  | [], _ :: _, h => h.elim
  | _ :: _, [], h => h.elim
theorem FzL.reverse : ∀ {vs : List (Option Nat)} {zs : List Int}, FzL vs zs → FzL vs.reverse zs.reverse
  | [], [], _ => trivial
  | v :: vs, z :: zs, h => by
    rw [List.reverse_cons, List.reverse_cons]
    exact h.2.reverse.append (FzL.one h.1)
  | [], _ :: _, h => h.elim
  | _ :: _, [], h => h.elim
theorem fz_some {v : Option Nat} (h : finV v = true) : ∃ z, Fz v z := by
  cases v with
  | none => cases h
  | some x => exact ⟨_, x, rfl, of_decide_eq_true h, rfl⟩
theorem Fz.fin {v : Option Nat} {z : Int} (h : Fz v z) : finV v = true := by
  obtain ⟨x, rfl, hx, _⟩ := h
  exact decide_eq_true hx
theorem un_zero {x : Nat} : Fp.un Ieee.double x = 0 ↔ x % 9223372036854775808 = 0 := by
  have h : (Fp.un Ieee.double x).natAbs = Fp.mag Ieee.double (x % 9223372036854775808) := by rw [un_abs, Fp.rg64]
  constructor
  · intro h0
    rw [h0] at h
    have : Fp.mag Ieee.double 0 = Fp.mag Ieee.double (x % 9223372036854775808) := by rw [Fp.mag_zero]; exact h
    exact ((Fp.mag_inj Ieee.double).1 this).symm
  · intro h0
    rw [h0, Fp.mag_zero] at h
    omega
theorem Fz.nz {v : Option Nat} {z : Int} (h : Fz v z) : nzV v = decide (z ≠ 0) := by
  obtain ⟨x, rfl, hx, rfl⟩ := h
  exact decide_eq_decide.2 (not_congr un_zero.symm)
theorem lay_fz {l : List (Option Nat)} {L : List Int} {v : Option Nat} {z : Int} (hl : FzL l L) (h : Fz v z) : FzL (layV l v) (L ++ layZ z []) := by
  unfold layV layZ
  rw [h.nz]
  by_cases h0 : z = 0
  · rw [decide_eq_false (fun g => g h0), if_neg Bool.false_ne_true, if_pos h0, List.append_nil]; exact hl
  · rw [decide_eq_true h0, if_pos rfl, if_neg h0]; exact hl.append (FzL.one h)
theorem layZ_app (z : Int) (l : List Int) : layZ z [] ++ l = layZ z l := by
  unfold layZ; split <;> rfl
theorem see_false {s : Lay} {a b : Option Nat} (h : s.see a b = false) : s.ov = false ∧ finV a = true ∧ finV b = true := by
  unfold Lay.see at h
  rw [Bool.or_eq_false_iff, Bool.or_eq_false_iff] at h
  obtain ⟨⟨h1, h2⟩, h3⟩ := h
  refine ⟨h1, ?_, ?_⟩
  · cases hh : finV a
    · rw [hh] at h2; cases h2
    · rfl
  · cases hh : finV b
    · rw [hh] at h3; cases h3
    · rfl
theorem down_ov : ∀ (es : List (Option Nat)) (s : Lay), s.ov = true → (es.foldl downStep s).ov = true
  | [], _, h => h
  | e :: es, s, h => down_ov es (downStep s e) (by
    have k : s.see (twoS s.q e) (quiL s.q e) = true := by unfold Lay.see; rw [h]; rfl
    unfold downStep
    dsimp only
    split <;> exact k)
theorem down_link : ∀ {es : List (Option Nat)} {zs : List Int} {s : Lay} {Q : Int} {Ls : List Int}, FzL es zs → Fz s.q Q → FzL s.l Ls → (es.foldl downStep s).ov = false →
    ∃ Q' Ls', Fz (es.foldl downStep s).q Q' ∧ FzL (es.foldl downStep s).l Ls' ∧ compDS zs Q Ls.reverse = (Ls'.reverse, Q')
  | [], [], s, Q, Ls, _, hq, hl, _ => ⟨Q, Ls, hq, hl, rfl⟩
  | e :: es, z :: zs, s, Q, Ls, h, hq, hl, ho => by
    have hov : (downStep s e).ov = false := by
      cases hh : (downStep s e).ov
      · rfl
      · have := down_ov es _ hh
        rw [List.foldl_cons, this] at ho
        cases ho
    have hsee : s.see (twoS s.q e) (quiL s.q e) = false := by
      unfold downStep at hov
      dsimp only at hov
      split at hov <;> exact hov
    obtain ⟨_, f1, f2⟩ := see_false hsee
    obtain ⟨S, fS⟩ := fz_some f1
    obtain ⟨E, fE⟩ := fz_some f2
    obtain ⟨A, B, hA, hB, e1, e2⟩ := qui_fin fS fE
    obtain rfl := hA.eq hq
    obtain rfl := hB.eq h.1
    rw [List.foldl_cons] at ho ⊢
    by_cases h0 : E = 0
    · have hd : downStep s e = ⟨twoS s.q e, s.l, s.see (twoS s.q e) (quiL s.q e)⟩ := by
        unfold downStep; dsimp only; rw [fE.nz, decide_eq_false (fun g => g h0)]; rfl
      rw [hd] at ho ⊢
      obtain ⟨Q', Ls', i1, i2, i3⟩ := down_link (es := es) (zs := zs) (s := ⟨twoS s.q e, s.l, s.see (twoS s.q e) (quiL s.q e)⟩) h.2 fS hl ho
      refine ⟨Q', Ls', i1, i2, ?_⟩
      rw [← i3, e1]
      conv => lhs; unfold compDS
      rw [if_pos (by rw [← e2]; exact h0)]
    · have hd : downStep s e = ⟨quiL s.q e, s.l ++ [twoS s.q e], s.see (twoS s.q e) (quiL s.q e)⟩ := by
        unfold downStep; dsimp only; rw [fE.nz, decide_eq_true h0]; rfl
      rw [hd] at ho ⊢
      obtain ⟨Q', Ls', i1, i2, i3⟩ := down_link (es := es) (zs := zs) (s := ⟨quiL s.q e, s.l ++ [twoS s.q e], s.see (twoS s.q e) (quiL s.q e)⟩) h.2 fE (hl.append (FzL.one fS)) ho
      refine ⟨Q', Ls', i1, i2, ?_⟩
      rw [← i3, List.reverse_append, e1, e2]
      conv => lhs; unfold compDS
      rw [if_neg (by rw [← e2]; exact h0)]
      rfl
  | [], _ :: _, _, _, _, h, _, _, _ => h.elim
  | _ :: _, [], _, _, _, h, _, _, _ => h.elim
theorem up_ov : ∀ (es : List (Option Nat)) (s : Lay), s.ov = true → (es.foldl upStep s).ov = true
  | [], _, h => h
  | e :: es, s, h => up_ov es (upStep s e) (by unfold upStep Lay.see; rw [h]; rfl)
theorem up_link : ∀ {es : List (Option Nat)} {zs : List Int} {s : Lay} {Q : Int} {Ls : List Int}, FzL es zs → Fz s.q Q → FzL s.l Ls → (es.foldl upStep s).ov = false →
    ∃ Q' Ls', Fz (es.foldl upStep s).q Q' ∧ FzL (es.foldl upStep s).l Ls' ∧ Ls' ++ layZ Q' [] = Ls ++ compUS zs Q
  | [], [], s, Q, Ls, _, hq, hl, _ => ⟨Q, Ls, hq, hl, rfl⟩
  | e :: es, z :: zs, s, Q, Ls, h, hq, hl, ho => by
    have hov : (upStep s e).ov = false := by
      cases hh : (upStep s e).ov
      · rfl
      · have := up_ov es _ hh
        rw [List.foldl_cons, this] at ho
        cases ho
    obtain ⟨_, f1, f2⟩ := see_false (show s.see (twoS e s.q) (quiL e s.q) = false from hov)
    obtain ⟨S, fS⟩ := fz_some f1
    obtain ⟨E, fE⟩ := fz_some f2
    obtain ⟨A, B, hA, hB, e1, e2⟩ := qui_fin fS fE
    obtain rfl := hA.eq h.1
    obtain rfl := hB.eq hq
    obtain ⟨Q', Ls', i1, i2, i3⟩ := up_link (es := es) (zs := zs) (s := upStep s e) h.2 fS (lay_fz hl fE) (by rw [List.foldl_cons] at ho; exact ho)
    refine ⟨Q', Ls', i1, i2, ?_⟩
    rw [i3, List.append_assoc, layZ_app, e1, e2]
    rfl
  | [], _ :: _, _, _, _, h, _, _, _ => h.elim
  | _ :: _, [], _, _, _, h, _, _, _ => h.elim
theorem comp_link {q : Option Nat} {d : List (Option Nat)} {Q : Int} {D : List Int} (hq : Fz q Q) (hd : FzL d D) (ho : (upSt (downSt q d)).ov = false) :
    FzL (upSt (downSt q d)).all (compUS (compDS D Q []).1 (compDS D Q []).2) := by
  have ho1 : (downSt q d).ov = false := by
    cases hh : (downSt q d).ov
    · rfl
    · have := up_ov (downSt q d).l.reverse ⟨(downSt q d).q, [], (downSt q d).ov⟩ hh
      rw [show (upSt (downSt q d)).ov = true from this] at ho
      cases ho
  obtain ⟨Q1, L1, i1, i2, i3⟩ := down_link (s := ⟨q, [], false⟩) (Ls := []) hd hq trivial ho1
  rw [show ([] : List Int).reverse = [] from rfl] at i3
  rw [i3]
  obtain ⟨Q2, L2, j1, j2, j3⟩ := up_link (s := ⟨(downSt q d).q, [], (downSt q d).ov⟩) (Ls := []) (FzL.reverse i2) i1 trivial ho
  rw [List.nil_append] at j3
  rw [← j3]
  exact lay_fz j2 j1
end Go.Proofs.YtjmaggfddinbkaaGreatDoor
end

section
namespace Go.Proofs.YtjmaggfddinbkaaGreatDoor
theorem chain_at : ∀ l : List Int, Chain l ↔ ∀ i, i < l.length → l.getD i 0 ≠ 0 ∧ (i = 0 ∨ Low (l.getD (i - 1) 0) (l.getD i 0))
  | [] => ⟨fun _ i hi => absurd hi (by simp), fun _ => trivial⟩
  | [x] => ⟨fun h i hi => by
      obtain rfl : i = 0 := by simp at hi; omega
      exact ⟨h, .inl rfl⟩, fun h => (h 0 (by simp)).1⟩
  | x :: y :: l => by
    have ih := chain_at (y :: l)
    constructor
    · rintro ⟨h1, h2, h3⟩ i hi
      have g := ih.1 h3
      match i, hi with
      | 0, _ => exact ⟨h1, .inl rfl⟩
      | 1, _ => exact ⟨(g 0 (by simp)).1, .inr h2⟩
      | i + 2, hi =>
        obtain ⟨g1, g2⟩ := g (i + 1) (by simp at hi ⊢; omega)
        refine ⟨g1, .inr ?_⟩
        rcases g2 with g2 | g2
        · omega
        · exact g2
    · intro h
      refine ⟨(h 0 (by simp)).1, ?_, ih.2 fun i hi => ?_⟩
      · rcases (h 1 (by simp)).2 with g | g
        · omega
        · exact g
      · obtain ⟨g1, g2⟩ := h (i + 1) (by simp at hi ⊢; omega)
        refine ⟨g1, ?_⟩
        match i with
        | 0 => exact .inl rfl
        | i + 1 =>
          rcases g2 with g2 | g2
          · omega
          · exact .inr g2
theorem pMant_odd {b : Nat} (h : b % 9223372036854775808 < 9218868437227405312) (h0 : Fp.un Ieee.double b ≠ 0) : ∃ m, pMantD b = 2 * m + 1 := by
  have hm : Fp.mag Ieee.double (b % 9223372036854775808) ≠ 0 := by
    have := un_abs b
    rw [Fp.rg64] at this
    omega
  obtain ⟨_, _, h3⟩ := fin_exp h
  have h1 : mantD b ≠ 0 := by
    intro h1
    rw [mag_parts h, h1, Nat.zero_mul] at hm
    exact hm rfl
  obtain ⟨m, e1, _, _⟩ := odd_split h1 (by have := mantD_lt b; omega)
  unfold pMantD
  rw [if_neg (by omega)]
  exact ⟨m, e1⟩
theorem abs_parts {b : Nat} (h : b % 9223372036854775808 < 9218868437227405312) : (Fp.un Ieee.double b).natAbs = pMantD b * 2 ^ (pExpD b + 1074).toNat := by
  rw [un_abs, Fp.rg64, mag_odd h]
theorem mu_nat {k c : Nat} {z : Int} (h : z.natAbs = c * 2 ^ k) : Mu k z := by
  rcases Int.natAbs_eq z with e | e
  · exact ⟨c, by rw [e, h, Int.natCast_mul, cast_pow]⟩
  · exact ⟨-c, by rw [e, h, Int.natCast_mul, cast_pow, Int.neg_mul]⟩
theorem low_iff {a b : Nat} (fb : b % 9223372036854775808 < 9218868437227405312) (ha : Fp.un Ieee.double a ≠ 0) (hb : Fp.un Ieee.double b ≠ 0) : lowB a b = true ↔ Low (Fp.un Ieee.double a) (Fp.un Ieee.double b) := by
  unfold lowB
  rw [decide_eq_true_iff]
  have hp := abs_parts fb
  constructor
  · intro h
    exact Low.of ha h (mu_nat hp)
  · intro h
    obtain ⟨m, hm⟩ := pMant_odd fb hb
    obtain ⟨c, hc⟩ := Mu.abs h
    have hz : zl (Fp.un Ieee.double a) ≤ (pExpD b + 1074).toNat := by
      rcases Nat.lt_or_ge (pExpD b + 1074).toNat (zl (Fp.un Ieee.double a)) with g | g
      · exfalso
        obtain ⟨d, hd⟩ : ∃ d, zl (Fp.un Ieee.double a) = (pExpD b + 1074).toNat + 1 + d := ⟨zl (Fp.un Ieee.double a) - ((pExpD b + 1074).toNat + 1), by omega⟩
        rw [hp, hd, hm, Nat.pow_add, Nat.pow_succ] at hc
        have e : (2 * m + 1) * 2 ^ (pExpD b + 1074).toNat = (c * 2 ^ d * 2) * 2 ^ (pExpD b + 1074).toNat := by rw [hc]; ac_rfl
        have := Nat.eq_of_mul_eq_mul_right (Nat.two_pow_pos _) e
        omega
      · exact g
    exact Nat.lt_of_lt_of_le (zl_lt _) (Nat.pow_le_pow_right (by decide) hz)
def unL (es : List Nat) : List Int := es.map (Fp.un Ieee.double)
theorem unL_len (es : List Nat) : (unL es).length = es.length := List.length_map ..
theorem unL_at (es : List Nat) {i : Nat} (h : i < es.length) : (unL es).getD i 0 = Fp.un Ieee.double (es.getD i 0) := by
  unfold unL
  rw [List.getD, List.getElem?_map, List.getD, List.getElem?_eq_getElem h]
  rfl
theorem range_all {n : Nat} {p : Nat → Bool} : (List.range n).all p = true ↔ ∀ i, i < n → p i = true := by
  rw [List.all_eq_true]
  exact ⟨fun h i hi => h i (List.mem_range.2 hi), fun h i hi => h i (List.mem_range.1 hi)⟩
theorem isB_iff {es : List Nat} (hw : Words64 es) : isB es = true ↔ es.length ≤ 64 ∧ (∀ x ∈ es, x % 9223372036854775808 < 9218868437227405312) ∧ Expn (unL es) := by
  have hall : es.all finD = true ↔ ∀ x ∈ es, x % 9223372036854775808 < 9218868437227405312 := by
    rw [List.all_eq_true]
    exact forall_congr' fun x => ⟨fun h hx => by have := h hx; rw [finD_is (hw x hx)] at this; exact of_decide_eq_true this, fun h hx => by rw [finD_is (hw x hx)]; exact decide_eq_true (h hx)⟩
  unfold isB
  rw [Bool.and_eq_true, Bool.and_eq_true, decide_eq_true_iff, hall, and_assoc]
  refine and_congr_right fun _ => and_congr_right fun hf => ?_
  rw [range_all, ← chain_expn, chain_at, unL_len]
  have fin : ∀ i, i < es.length → es.getD i 0 % 9223372036854775808 < 9218868437227405312 := fun i hi => hf _ (by rw [List.getD, List.getElem?_eq_getElem hi]; exact List.getElem_mem ..)
  constructor
  · intro h i hi
    have h1 := h i hi
    unfold okAt at h1
    rw [Bool.and_eq_true, Bool.or_eq_true, decide_eq_true_iff, decide_eq_true_iff] at h1
    rw [unL_at es hi]
    refine ⟨fun g => h1.1 (un_zero.1 g), ?_⟩
    rcases h1.2 with g | g
    · exact .inl g
    · rcases Nat.eq_zero_or_pos i with h0 | h0
      · exact .inl h0
      · refine .inr ?_
        rw [unL_at es (by omega)]
        have h2 := h (i - 1) (by omega)
        unfold okAt at h2
        rw [Bool.and_eq_true, decide_eq_true_iff] at h2
        exact (low_iff (fin i hi) (fun g => h2.1 (un_zero.1 g)) (fun g => h1.1 (un_zero.1 g))).1 g
  · intro h i hi
    unfold okAt
    rw [Bool.and_eq_true, Bool.or_eq_true, decide_eq_true_iff, decide_eq_true_iff]
    obtain ⟨h1, h2⟩ := h i hi
    rw [unL_at es hi] at h1 h2
    refine ⟨fun g => h1 (un_zero.2 g), ?_⟩
    rcases Nat.eq_zero_or_pos i with h0 | h0
    · exact .inl h0
    · refine .inr ?_
      rcases h2 with g | g
      · omega
      · rw [unL_at es (by omega)] at g
        have h3 := (h (i - 1) (by omega)).1
        rw [unL_at es (by omega)] at h3
        exact (low_iff (fin i hi) h3 h1).2 g
theorem fzL_words : ∀ {es : List Nat}, (∀ x ∈ es, x % 9223372036854775808 < 9218868437227405312) → FzL (es.map fv) (unL es)
  | [], _ => trivial
  | x :: es, h => ⟨fz_of (h x (List.mem_cons_self ..)), fzL_words fun y hy => h y (List.mem_cons_of_mem _ hy)⟩
theorem fzL_unL : ∀ {es : List Nat} {zs : List Int}, FzL (es.map fv) zs → (∀ x ∈ es, x % 9223372036854775808 < 9218868437227405312) ∧ unL es = zs
  | [], [], _ => ⟨fun x hx => absurd hx (by simp), rfl⟩
  | x :: es, z :: zs, h => by
    obtain ⟨h1, h2⟩ := fzL_unL (es := es) h.2
    obtain ⟨h3, h4⟩ := Fz.fv h.1
    refine ⟨fun y hy => ?_, ?_⟩
    · rcases List.mem_cons.1 hy with rfl | hy
      · exact h3
      · exact h1 y hy
    · unfold unL at h2 ⊢
      rw [List.map_cons, h2, h4]
  | [], _ :: _, h => h.elim
  | _ :: _, [], h => h.elim
theorem isB_words {es : List Nat} (hw : Words64 es) (h : isB es = true) : FzL (es.map fv) (unL es) ∧ Expn (unL es) ∧ (∀ z ∈ unL es, RepZ z) := by
  obtain ⟨_, h2, h3⟩ := (isB_iff hw).1 h
  have := fzL_words h2
  exact ⟨this, h3, this.rep⟩
theorem isB_res {ls : List Nat} {zs : List Int} (hw : Words64 ls) (h : FzL (ls.map fv) zs) (hl : ls.length ≤ 64) (hE : Expn zs) : isB ls = true ∧ unL ls = zs := by
  obtain ⟨h1, h2⟩ := fzL_unL h
  exact ⟨(isB_iff hw).2 ⟨hl, h1, by rw [h2]; exact hE⟩, h2⟩
end Go.Proofs.YtjmaggfddinbkaaGreatDoor
end

section
namespace Go.Proofs.YtjmaggfddinbkaaGreatDoor
/-! Scale -/
theorem rev_sum : ∀ l : List Int, l.reverse.sum = l.sum
  | [] => rfl
  | x :: l => by rw [List.reverse_cons, List.sum_append, rev_sum l, List.sum_cons, List.sum_cons, List.sum_nil]; omega
theorem expn_sign {l : List Int} {e : Int} (h : Expn (l ++ [e])) : (l ++ [e]).sum.sign = e.sign ∧ e ≠ 0 := by
  have h2 : Expn (e :: l.reverse).reverse := by rw [List.reverse_cons, List.reverse_reverse]; exact h
  obtain ⟨h3, ⟨k, h4, h5, _⟩, _⟩ := dn_of _ h2
  rw [rev_sum] at h5
  have h7 := h4.least h3
  refine ⟨?_, h3⟩
  rw [List.sum_append, List.sum_cons, List.sum_nil]
  have h8 : l.sum.natAbs < e.natAbs := by omega
  rcases Int.lt_trichotomy e 0 with g | g | g
  · rw [Int.sign_eq_neg_one_of_neg g, Int.sign_eq_neg_one_of_neg (by omega)]
  · exact absurd g h3
  · rw [Int.sign_eq_one_of_pos g, Int.sign_eq_one_of_pos (by omega)]
/-! Grow, Add -/
theorem err_zero {s : Lay} (h : s.err = 0) : s.ov = false ∧ s.all.length ≤ 64 := by
  unfold Lay.err at h
  cases ho : s.ov
  · rw [ho, if_neg Bool.false_ne_true] at h
    refine ⟨rfl, ?_⟩
    split at h
    · cases h
    · omega
  · rw [ho, if_pos rfl] at h; cases h
theorem isB_len {es : List Nat} (h : isB es = true) : es.length ≤ 64 := by
  unfold isB at h; simp only [Bool.and_eq_true, decide_eq_true_eq] at h; exact h.1.1
end Go.Proofs.YtjmaggfddinbkaaGreatDoor
end

section
namespace Go.Proofs.YtjmaggfddinbkaaGreatDoor
open Go.RowKit
set_option maxRecDepth 100000 in
set_option maxHeartbeats 600000 in
theorem l_any (A : Option Addr) (c : Nat) (l : List Nat) (hw : Words64 l) (hl : l.length * 8 ≤ 140737488355328) (w : World) (hr : SlAt w A (u64v l)) : Calls Tryz.prog 12 #[.slice A l.length c] w fun e w' => ∃ v, e = .returned v ∧ OwnF w' w.heap.size v l ∧ Within w w' := by
  have CO := Lib.hid (Rof64_any A c l hw hl w hr)
  clear hw hr
  go_enter Tryz.func12, Tryz.ntmps12
  go_wp2_with fail
  refine CO.out.mono ?_; rintro e1 w1 ⟨v, rfl, hO, hb1⟩
  have HO := Lib.hid hO; clear hO
  go_wp2
  go_ret
  exact ⟨_, rfl, HO.out, hb1⟩
end Go.Proofs.YtjmaggfddinbkaaGreatDoor
end

section
namespace Go.Proofs.YtjmaggfddinbkaaGreatDoor
open Go.RowKit
theorem fv_nil {ls : List Nat} (h : ls.map fv = []) : ls = [] := List.map_eq_nil_iff.1 h
theorem isB_fins {ls : List Nat} (hw : Words64 ls) (h : isB ls = true) : ∀ x ∈ ls, x % 9223372036854775808 < 9218868437227405312 := ((isB_iff hw).1 h).2.1
end Go.Proofs.YtjmaggfddinbkaaGreatDoor
end

section
namespace Go.Proofs.YtjmaggfddinbkaaGreatDoor
/-! Compress -/
def ds (q : Nat) (d : List Nat) (k : Nat) : Lay := ((d.map fv).take k).foldl downStep ⟨fv q, [], false⟩
theorem ds_zero (q : Nat) (d : List Nat) : ds q d 0 = ⟨fv q, [], false⟩ := by unfold ds; rw [List.take_zero]; rfl
theorem ds_all (q : Nat) (d : List Nat) : ds q d d.length = downSt (fv q) (d.map fv) := by
  unfold ds downSt
  rw [List.take_of_length_le (by rw [List.length_map]; exact Nat.le_refl _)]
theorem ds_succ (q : Nat) (d : List Nat) {k : Nat} (h : k < d.length) : ds q d (k + 1) = downStep (ds q d k) (fv (d.getD k 0)) := by
  unfold ds
  rw [fold_take downStep _ (d.map fv) none (by rw [List.length_map]; exact h), getD_fv d h]
theorem downStep_len (s : Lay) (e : Option Nat) : (downStep s e).l.length ≤ s.l.length + 1 := by
  unfold downStep
  dsimp only
  split
  · rw [List.length_append]; exact Nat.le_refl _
  · exact Nat.le_succ _
theorem ds_len (q : Nat) (d : List Nat) : ∀ k, k ≤ d.length → (ds q d k).l.length ≤ k
  | 0, _ => by rw [ds_zero]; exact Nat.le_refl _
  | k + 1, h => by
    have h1 := ds_len q d k (by omega)
    have h2 := downStep_len (ds q d k) (fv (d.getD k 0))
    rw [ds_succ q d (by omega)]
    omega
def us (D : Lay) (k : Nat) : Lay := (D.l.reverse.take k).foldl upStep ⟨D.q, [], D.ov⟩
theorem us_zero (D : Lay) : us D 0 = ⟨D.q, [], D.ov⟩ := by unfold us; rw [List.take_zero]; rfl
theorem us_all (D : Lay) : us D D.l.length = upSt D := by
  unfold us upSt
  rw [List.take_of_length_le (by rw [List.length_reverse]; exact Nat.le_refl _)]
theorem rev_at {α : Type} (l : List α) (d : α) {k : Nat} (h : k < l.length) : l.reverse.getD k d = l.getD (l.length - 1 - k) d := by
  rw [List.getD, List.getD, List.getElem?_reverse h]
theorem us_succ (D : Lay) {k : Nat} (h : k < D.l.length) : us D (k + 1) = upStep (us D k) (D.l.getD (D.l.length - 1 - k) none) := by
  unfold us
  rw [fold_take upStep _ D.l.reverse none (by rw [List.length_reverse]; exact h), rev_at D.l none h]
theorem us_len (D : Lay) : ∀ k, k ≤ D.l.length → (us D k).l.length ≤ k
  | 0, _ => by rw [us_zero]; exact Nat.le_refl _
  | k + 1, h => by
    have h1 := us_len D k (by omega)
    have h2 : (upStep (us D k) (D.l.getD (D.l.length - 1 - k) none)).l.length ≤ (us D k).l.length + 1 := layV_len _ _
    rw [us_succ D (by omega)]
    omega
def dwn (es : List Nat) : List Nat := es.dropLast.reverse
theorem dwn_len (es : List Nat) : (dwn es).length = es.length - 1 := by unfold dwn; rw [List.length_reverse, List.length_dropLast]
theorem dwn_at (es : List Nat) {k : Nat} (h : k + 1 < es.length) : (dwn es).getD k 0 = es.getD (es.length - 2 - k) 0 := by
  unfold dwn
  rw [rev_at _ _ (by rw [List.length_dropLast]; omega), List.length_dropLast]
  rw [List.getD, List.getD, List.getElem?_dropLast, if_pos (by omega), show es.length - 1 - 1 - k = es.length - 2 - k by omega]
def compSt (es : List Nat) : Lay := upSt (downSt (fv (es.getD (es.length - 1) 0)) ((dwn es).map fv))
def compR (es : List Nat) : List (Option Nat) × Int := if chkE es = 0 then (if es.length = 0 then ([], 0) else ((compSt es).out, (compSt es).err)) else ([], chkE es)
/-! Value -/
def vs (es : List Nat) (k : Nat) : Option Nat := ((es.map fv).take k).foldl (fop .add) (some 0)
def signR (es : List Nat) : Int × Int := if chkE es = 0 then ((Fp.un Ieee.double (es.getD (es.length - 1) 0)).sign, 0) else (0, chkE es)
theorem last_split {es : List Nat} (h : es.length ≠ 0) : es = es.dropLast ++ [es.getD (es.length - 1) 0] := by
  have hne : es ≠ [] := fun h0 => h (by rw [h0]; rfl)
  rw [List.getD, ← List.getLast?_eq_getElem?, List.getLast?_eq_some_getLast hne]
  exact (List.dropLast_concat_getLast hne).symm
theorem sum_sign {es : List Nat} (hw : Words64 es) (h : isB es = true) : (unL es).sum.sign = (signR es).1 := by
  unfold signR
  rw [if_pos (chkE_zero.2 h)]
  obtain ⟨_, hE, _⟩ := isB_words hw h
  by_cases h0 : es.length = 0
  · rw [List.eq_nil_of_length_eq_zero h0]; decide +kernel
  · have e := last_split h0
    have e2 : unL es = unL es.dropLast ++ [Fp.un Ieee.double (es.getD (es.length - 1) 0)] := by
      conv => lhs; rw [e]
      unfold unL; rw [List.map_append]; rfl
    rw [e2] at hE ⊢
    exact (expn_sign hE).1
end Go.Proofs.YtjmaggfddinbkaaGreatDoor
end

section
namespace Go.Proofs.YtjmaggfddinbkaaGreatDoor
open Go.RowKit
def LayC (w : World) (p : Nat) (sv : Value) (ov : Bool) : Prop := w.cell? ⟨p, 0, none⟩ = some sv ∧ w.cell? ⟨p, 1, none⟩ = some (.bool ov) ∧ ∀ i, w.frozen? ⟨p, i, none⟩ = false
theorem LayC.lt {w : World} {p : Nat} {sv : Value} {ov : Bool} (h : LayC w p sv ov) : p < w.heap.size := World.block_lt_of_cell? _ _ h.1
theorem LayC.of {w w' : World} {p : Nat} {sv : Value} {ov : Bool} (h : LayC w p sv ov) (k : Within w w') : LayC w' p sv ov :=
  ⟨(k.cells _ _ h.lt).trans h.1, (k.cells _ _ h.lt).trans h.2.1, fun i => (k.frozens _ i h.lt).trans (h.2.2 i)⟩
theorem LayC.made (w : World) (T : TypeId) : LayC (w.alloc (.cells #[.slice none 0 0, .bool false] T)) w.heap.size (.slice none 0 0) false := by
  refine ⟨?_, ?_, fun i => ?_⟩
  · rw [World.cell?_alloc_at _ _ _ _ rfl]; rfl
  · rw [World.cell?_alloc_at _ _ _ _ rfl]; rfl
  · simp
theorem LayC.see {w : World} {p : Nat} {sv : Value} {ov : Bool} (h : LayC w p sv ov) (b : Bool) : LayC (w.setCell ⟨p, 1, none⟩ (.bool b)) p sv b := by
  have hl := h.lt
  obtain ⟨h0, h1, hf⟩ := h
  exact ⟨by go_simp, by go_simp, fun i => by go_simp⟩
theorem lay_cell_heap {w w' : World} {b o : Nat} (h : w'.heap[b]? = w.heap[b]?) : w'.cell? ⟨b, o, none⟩ = w.cell? ⟨b, o, none⟩ ∧ w'.frozen? ⟨b, o, none⟩ = w.frozen? ⟨b, o, none⟩ := by
  constructor
  · unfold World.cell?; rw [h]
  · unfold World.frozen?; rw [h]
theorem LayC.grown {w w' : World} {p : Nat} {sv : Value} {ov : Bool} {bk : Option Nat} (h : LayC w p sv ov) (k : w.grownBy w' bk) (hb : bk ≠ some p) : LayC w' p sv ov := by
  have e := k.block p h.lt (Ne.symm hb)
  exact ⟨(lay_cell_heap e).1.trans h.1, (lay_cell_heap e).1.trans h.2.1, fun i => (lay_cell_heap e).2.trans (h.2.2 i)⟩
theorem lay_set_size (w : World) (p : Addr) (u : Value) : (w.setCell p u).heap.size = w.heap.size := by simp [World.setCell]
theorem lay_grown_set {w w1 : World} (h : Within w w1) (p o : Nat) (u : Value) : w.grownBy (w1.setCell ⟨p, o, none⟩ u) (some p) := by
  refine ⟨h.os, h.tape, h.output, ?_, fun i hi hne => ?_⟩
  · rw [lay_set_size]; exact h.size
  · rw [Below.heap_setCell _ _ _ _ (fun e => hne (by rw [e]))]
    exact h.block i hi
theorem run_app_floatG (w : World) (base : Nat) (v : Value) (l : List Nat) (x : Nat) (hown : OwnF w base v l) (hl : (l.length + 1) * 8 ≤ 140737488355328) (hbase : base ≤ w.heap.size) :
    ∃ v' w', (Builtin.append_ #[24, 24] 24 #[v, .slice (some ⟨w.heap.size, 0, none⟩) 1 1]).run Tryz.prog (w.alloc (.cells #[.float .f64 x] 29)) = .ok v' w' ∧ OwnF w' base v' (l ++ [x]) ∧ Below base w w' ∧
      w.grownBy w' v.ownBlock ∧ ∀ g, g < w.heap.size → v.ownBlock ≠ some g → v'.ownBlock ≠ some g := by
  have hin := (Within.refl w).alloc (.cells #[.float .f64 x] 29)
  obtain ⟨i0, hi0, hz0, hz1, hz2⟩ := info_parts Tryz.infoF64
  obtain ⟨v', w', h1, h2, h3, h5⟩ := run_app (P := Tryz.prog) (w.alloc (.cells #[.float .f64 x] 29)) base 24 24 29 i0 (.float .f64 0) 8 (by kernel_rfl) hi0 hz0 hz1 hz2 rfl v l.length (f64v l) (hown.of hin) (some ⟨w.heap.size, 0, none⟩) 1 (f64v [x]) (SlAt.one w _ _) (f64v_one [x]) (by rw [f64v_len]; unfold maxLen; simp; omega) (by rw [f64v_len]; simp; omega) (by simp; omega)
  refine ⟨v', w', h1, ?_, Below.trans (Below.mono hin hbase) (grown_below (hown.of hin) (by simp; omega) h3), ⟨h3.os, h3.tape, h3.output, Nat.le_trans (by simp) h3.size, fun i hi hne => (h3.block i (by simp; omega) hne).trans (heap_alloc_old w _ hi)⟩, fun g hg hne => ?_⟩
  · unfold OwnF f64v
    rw [List.length_append, List.map_append]; exact h2
  · rcases h5 with h5 | h5
    · rw [h5]; exact hne
    · rw [h5]; intro e; injection e with e; simp at e; omega
def LayG (w : World) (p : Nat) (L : List (Option Nat)) (ov : Bool) (X : Option Nat) : Prop :=
  ∃ sv ls, LayC w p sv ov ∧ OwnF w (p + 1) sv ls ∧ Words64 ls ∧ ls.map fv = L ∧ ∀ g, X = some g → g ≠ p ∧ g < w.heap.size ∧ sv.ownBlock ≠ some g
theorem LayG.p {w : World} {p : Nat} {L : List (Option Nat)} {ov : Bool} {X : Option Nat} (h : LayG w p L ov X) : LayP w p L ov := by
  obtain ⟨sv, ls, ⟨c0, c1, c2⟩, ho, hw, hm, _⟩ := h
  exact ⟨sv, ls, c0, c1, c2, ho, hw, hm⟩
theorem LayG.of {w w' : World} {p : Nat} {L : List (Option Nat)} {ov : Bool} {X : Option Nat} (h : LayG w p L ov X) (k : Within w w') : LayG w' p L ov X := by
  obtain ⟨sv, ls, hc, ho, hw, hm, hx⟩ := h
  exact ⟨sv, ls, hc.of k, ho.of k, hw, hm, fun g e => ⟨(hx g e).1, Nat.lt_of_lt_of_le (hx g e).2.1 k.size, (hx g e).2.2⟩⟩
theorem SlAt.same {w w' : World} {A : Option Addr} {xs : List Value} (h : SlAt w A xs) (hsz : w.heap.size ≤ w'.heap.size) (k : ∀ ad, A = some ad → w'.heap[ad.block]? = w.heap[ad.block]?) : SlAt w' A xs := fun hn => by
  obtain ⟨ad, rfl, hlt, hc⟩ := h hn
  refine ⟨ad, rfl, Nat.lt_of_lt_of_le hlt hsz, fun j u hu => ?_⟩
  have e := k ad rfl
  have h1 := hc j u hu
  have hb : (ad.add j).block = ad.block := add_block ad j
  unfold World.cell? at h1 ⊢
  rw [hb] at h1 ⊢
  rw [e]; exact h1
set_option maxRecDepth 100000 in
set_option maxHeartbeats 600000 in
theorem seeC_ov (p a b : Nat) (sv : Value) (w : World) (h : LayC w p sv true) : Calls Tryz.prog 89 #[.pointer (some ⟨p, 0, none⟩), .float .f64 a, .float .f64 b] w fun e w' => e = .returned (.tuple #[.float .f64 a, .float .f64 b]) ∧ LayC w' p sv (true || !finW a || !finW b) ∧ w.grownBy w' (some p) := by
  have hL0 := h.lt
  have hLL := Lib.hid h
  obtain ⟨s0, t0, u0⟩ := h
  have FI := Lib.hid (fun x w => efinite_any x w)
  have e : (true || !finW a || !finW b) = true := rfl
  rw [e]
  clear e
  go_enter Tryz.func89, Tryz.ntmps89
  go_wp2
  go_ret2
  exact ⟨rfl, hLL.out.see true, lay_grown_set (Within.refl _) p 1 _⟩
set_option maxRecDepth 100000 in
set_option maxHeartbeats 600000 in
theorem seeC_a (p a b : Nat) (sv : Value) (ha : finW a = false) (w : World) (h : LayC w p sv false) : Calls Tryz.prog 89 #[.pointer (some ⟨p, 0, none⟩), .float .f64 a, .float .f64 b] w fun e w' => e = .returned (.tuple #[.float .f64 a, .float .f64 b]) ∧ LayC w' p sv (false || !finW a || !finW b) ∧ w.grownBy w' (some p) := by
  have hL0 := h.lt
  have hLL := Lib.hid h
  obtain ⟨s0, t0, u0⟩ := h
  have FI := Lib.hid (fun x w => efinite_any x w)
  have e : (false || !finW a || !finW b) = true := by rw [ha]; rfl
  rw [e]
  clear e
  have HA := Lib.hid ha; clear ha
  go_enter Tryz.func89, Tryz.ntmps89
  go_wp2_with fail
  refine (FI.out a _).mono ?_; rintro e1 w1 ⟨rfl, hb1⟩
  rw [HA.out]
  have hL1 := hLL.out.of hb1
  obtain ⟨s1, t1, u1⟩ := hL1
  have z1 : p < w1.heap.size := Nat.lt_of_lt_of_le hL0 hb1.sizes
  have hL1 := hLL.out.of hb1
  go_wp2
  go_ret2
  exact ⟨rfl, (hL1).see true, lay_grown_set hb1 p 1 _⟩
set_option maxRecDepth 100000 in
set_option maxHeartbeats 600000 in
theorem seeC_b (p a b : Nat) (sv : Value) (ha : finW a = true) (w : World) (h : LayC w p sv false) : Calls Tryz.prog 89 #[.pointer (some ⟨p, 0, none⟩), .float .f64 a, .float .f64 b] w fun e w' => e = .returned (.tuple #[.float .f64 a, .float .f64 b]) ∧ LayC w' p sv (false || !finW a || !finW b) ∧ w.grownBy w' (some p) := by
  have hL0 := h.lt
  have hLL := Lib.hid h
  obtain ⟨s0, t0, u0⟩ := h
  have FI := Lib.hid (fun x w => efinite_any x w)
  have e : (false || !finW a || !finW b) = !finW b := by rw [ha]; rfl
  rw [e]
  clear e
  have HA := Lib.hid ha; clear ha
  go_enter Tryz.func89, Tryz.ntmps89
  go_wp2_with fail
  refine (FI.out a _).mono ?_; rintro e1 w1 ⟨rfl, hb1⟩
  rw [HA.out]
  have hL1 := hLL.out.of hb1
  obtain ⟨s1, t1, u1⟩ := hL1
  have z1 : p < w1.heap.size := Nat.lt_of_lt_of_le hL0 hb1.sizes
  have hL1 := hLL.out.of hb1
  go_wp2_with fail
  refine (FI.out b _).mono ?_; rintro e2 w2 ⟨rfl, hb2'⟩
  have hb2 := hb1.trans hb2'
  have hL2 := hLL.out.of hb2
  obtain ⟨s2, t2, u2⟩ := hL2
  have z2 : p < w2.heap.size := Nat.lt_of_lt_of_le hL0 hb2.sizes
  have hL2 := hLL.out.of hb2
  go_wp2
  go_ret2
  exact ⟨rfl, (hL2).see (!finW b), lay_grown_set hb2 p 1 _⟩
theorem seeC (p a b : Nat) (sv : Value) (ov : Bool) (w : World) (h : LayC w p sv ov) : Calls Tryz.prog 89 #[.pointer (some ⟨p, 0, none⟩), .float .f64 a, .float .f64 b] w fun e w' => e = .returned (.tuple #[.float .f64 a, .float .f64 b]) ∧ LayC w' p sv (ov || !finW a || !finW b) ∧ w.grownBy w' (some p) := by
  cases ov
  · cases ha : finW a
    · have := seeC_a p a b sv ha w h
      rwa [ha] at this
    · have := seeC_b p a b sv ha w h
      rwa [ha] at this
  · exact seeC_ov p a b sv w h
theorem see_g {w w' : World} {p : Nat} {L : List (Option Nat)} {ov ov' : Bool} {X : Option Nat} (h : LayG w p L ov X) (hs : ∀ sv, LayC w p sv ov → LayC w' p sv ov') (hg : w.grownBy w' (some p)) : LayG w' p L ov' X ∧ Below p w w' ∧ ∀ g, X = some g → w'.heap[g]? = w.heap[g]? := by
  obtain ⟨sv, ls, hc, ho, hw, hm, hx⟩ := h
  have hlt := hc.lt
  refine ⟨⟨sv, ls, hs sv hc, ?_, hw, hm, fun g e => ⟨(hx g e).1, Nat.lt_of_lt_of_le (hx g e).2.1 hg.size, (hx g e).2.2⟩⟩, ?_, fun g e => hg.block g (hx g e).2.1 (fun h => (hx g e).1 (Option.some.inj h))⟩
  · exact ho.kept hg (by
      cases hv : sv.ownBlock with
      | none => exact .inl rfl
      | some j =>
        right
        intro e
        have := (ho.lt j hv).1
        injection e with e
        omega)
  · exact ⟨hg.os, hg.tape, hg.output, hg.size, fun i hi => hg.block i (by omega) (fun e => by injection e with e; omega)⟩
theorem seeG (p a b : Nat) (L : List (Option Nat)) (ov : Bool) (X : Option Nat) (w : World) (h : LayG w p L ov X) : Calls Tryz.prog 89 #[.pointer (some ⟨p, 0, none⟩), .float .f64 a, .float .f64 b] w fun e w' => e = .returned (.tuple #[.float .f64 a, .float .f64 b]) ∧ LayG w' p L (ov || !finW a || !finW b) X ∧ Below p w w' ∧ ∀ g, X = some g → w'.heap[g]? = w.heap[g]? := by
  obtain ⟨sv, ls, hc, ho, hw, hm, hx⟩ := h
  refine (seeC p a b sv ov w hc).mono fun e w' ⟨h1, h2, h3⟩ => ⟨h1, ?_⟩
  refine see_g ⟨sv, ls, hc, ho, hw, hm, hx⟩ (fun sv' hc' => ?_) h3
  obtain rfl : sv = sv' := by have := hc.1.symm.trans hc'.1; injection this
  exact h2
set_option maxRecDepth 100000 in
set_option maxHeartbeats 600000 in
theorem elayG_no (p x : Nat) (L : List (Option Nat)) (ov : Bool) (X : Option Nat) (hx : x % 9223372036854775808 = 0) (w : World) (h : LayG w p L ov X) : Calls Tryz.prog 91 #[.pointer (some ⟨p, 0, none⟩), .float .f64 x] w fun e w' => e = .returned (.tuple #[]) ∧ LayG w' p (layV L (fv x)) ov X ∧ Below p w w' ∧ ∀ g, X = some g → w'.heap[g]? = w.heap[g]? := by
  have hz : (FloatKind.f64.format.order x 0 == some .eq) = true := by rw [c_zero, decide_eq_true hx]
  have hne : (FloatKind.f64.format.order x 0 != some .eq) = false := by simp [bne, hz]
  have hl : layV L (fv x) = L := by unfold layV; rw [nzV_fv, decide_eq_false (fun g => g hx)]; rfl
  rw [hl]
  clear hx hl
  have hLL := Lib.hid h; clear h
  go_enter Tryz.func91, Tryz.ntmps91
  go_wp2
  go_end0
  exact ⟨rfl, hLL.out, Below.refl _ _, fun _ _ => rfl⟩
set_option maxRecDepth 100000 in
set_option maxHeartbeats 600000 in
theorem elayG_yes (p x : Nat) (L : List (Option Nat)) (ov : Bool) (X : Option Nat) (hx : ¬ x % 9223372036854775808 = 0) (hx2 : x < 18446744073709551616) (hn : L.length ≤ 1000000) (w : World) (h : LayG w p L ov X) : Calls Tryz.prog 91 #[.pointer (some ⟨p, 0, none⟩), .float .f64 x] w fun e w' => e = .returned (.tuple #[]) ∧ LayG w' p (layV L (fv x)) ov X ∧ Below p w w' ∧ ∀ g, X = some g → w'.heap[g]? = w.heap[g]? := by
  have hz : (FloatKind.f64.format.order x 0 == some .eq) = false := by rw [c_zero, decide_eq_false hx]
  have hne : (FloatKind.f64.format.order x 0 != some .eq) = true := by simp [bne, hz]
  have hl : layV L (fv x) = L ++ [fv x] := by unfold layV; rw [nzV_fv, decide_eq_true hx]; rfl
  rw [hl]
  clear hx hl
  obtain ⟨sv, ls, hC, hown, hw, hm, hX⟩ := h
  have hL0 := hC.lt
  obtain ⟨s0, t0, u0⟩ := hC
  obtain ⟨A, c, rfl, _, _, _⟩ := hown.form
  have hlen : ls.length = L.length := by rw [← hm, List.length_map]
  obtain ⟨v', w', hrun, hown', hbl', hgr, hob⟩ := run_app_floatG w (p + 1) _ _ x hown (by omega) hL0
  obtain ⟨A2, c2, rfl, _, _, _⟩ := hown'.form
  have hX2 : ∀ g, X = some g → g ≠ p ∧ g < w'.heap.size ∧ Value.ownBlock (.slice A2 (ls ++ [x]).length c2) ≠ some g ∧ w'.heap[g]? = w.heap[g]? := fun g e => ⟨(hX g e).1, Nat.lt_of_lt_of_le (hX g e).2.1 hgr.size, hob g (hX g e).2.1 (hX g e).2.2, hgr.block g (hX g e).2.1 (Ne.symm (hX g e).2.2)⟩
  have HX := Lib.hid hX2; clear hX hX2 hgr hob
  have RUN := Lib.hid hrun; have HOW := Lib.hid hown'
  obtain ⟨n2, hn2⟩ : ∃ n2, n2 = (ls ++ [x]).length := ⟨_, rfl⟩
  rw [← hn2] at RUN HOW HX
  clear hn2
  have HW := Lib.hid hw; have HM := Lib.hid hm
  clear hrun hown' hown hw hm hlen hn
  have s1 : w'.cell? ⟨p, 1, none⟩ = some (.bool ov) := (hbl'.cell (p := ⟨p, 1, none⟩) (Nat.lt_succ_self p)).trans t0
  have s2 : ∀ i, w'.frozen? ⟨p, i, none⟩ = false := fun i => (hbl'.frozen (p := ⟨p, i, none⟩) (Nat.lt_succ_self p)).trans (u0 i)
  have s3 : w'.cell? ⟨p, 0, none⟩ = some (.slice A ls.length c) := (hbl'.cell (p := ⟨p, 0, none⟩) (Nat.lt_succ_self p)).trans s0
  have s4 : p < w'.heap.size := World.block_lt_of_cell? _ _ s3
  obtain ⟨n, hn⟩ : ∃ n, n = ls.length := ⟨_, rfl⟩
  rw [← hn] at s0 s3 RUN
  clear hn
  go_enter Tryz.func91, Tryz.ntmps91
  go_wp2_with (at_builtin; refine wpList_append_run rfl (.tmp 10) (.tmp 12) 24 rfl _ _ rfl rfl RUN.out ?_)
  go_end0
  exact ⟨rfl, ⟨_, ls ++ [x], ⟨by go_simp, by go_simp, fun i => by go_simp⟩, (HOW.out).set (Nat.lt_succ_self p) _, (fun y hy => by rcases List.mem_append.1 hy with hy | hy; exact HW.out y hy; rcases List.mem_singleton.1 hy with rfl; exact hx2), by rw [List.map_append, HM.out]; rfl, fun g e => ⟨(HX.out g e).1, by rw [lay_set_size]; exact (HX.out g e).2.1, (HX.out g e).2.2.1⟩⟩, Below.setCell (p := ⟨p, 0, none⟩) (Below.mono hbl' (Nat.le_succ p)) (Nat.le_refl p) _, fun g e => (Below.heap_setCell _ _ _ _ (HX.out g e).1).trans (HX.out g e).2.2.2⟩
theorem elayG (p x : Nat) (L : List (Option Nat)) (ov : Bool) (X : Option Nat) (hx : x < 18446744073709551616) (hn : L.length ≤ 1000000) (w : World) (h : LayG w p L ov X) : Calls Tryz.prog 91 #[.pointer (some ⟨p, 0, none⟩), .float .f64 x] w fun e w' => e = .returned (.tuple #[]) ∧ LayG w' p (layV L (fv x)) ov X ∧ Below p w w' ∧ ∀ g, X = some g → w'.heap[g]? = w.heap[g]? := by
  by_cases h0 : x % 9223372036854775808 = 0
  · exact elayG_no p x L ov X h0 w h
  · exact elayG_yes p x L ov X h0 hx hn w h
end Go.Proofs.YtjmaggfddinbkaaGreatDoor
end
