/- What the law's walk rests on, part 3: contracts of functions and plain facts. -/
import Derived.Test.YtjmaggfddinbkaaGreatDoorRows
import Derived.WalkKit
import Derived.WalkSpells
import Derived.WalkLawsBesides
import Derived.BigQuiet
import Derived.Lib.Hide
import Derived.Deep.OwnRows
import Derived.OwnWalk
import Derived.LoopTactic
import Derived.Outline
import Derived.IntWalk
import Derived.OrdersHeld
import Derived.StillTail
import Derived.Deep.RegionHeld3
import Derived.Maps.AppendAt
import Derived.Deep.QuietTactic
import Derived.Deep.DeepCutAuto
import Derived.Shelf.Bits.Mul64
import Derived.Laws.Externs
import Derived.Deep.RegionWith
import Ieee.Arith
import Derived.Lib.TrailingZeros
import Derived.Lib.BitFns
import Derived.Lib.Strings
import Derived.Lib.Slices
import Derived.Lib.Small
import Derived.Lib.Walk
import Derived.Deep.AppendLies
import Derived.Deep.Draws
import Derived.Laws.OwnMore
import Derived.ProofKit
import Derived.OpenShut
import Derived.ShutString
import Derived.ChangeOld
import Derived.Below
import Derived.Deep.DeepHandedRow
import Derived.Lib.LaidTab
import Derived.Test.YtjmaggfddinbkaaGreatDoorZESp2
set_option linter.unusedVariables false
set_option linter.unusedSimpArgs false
section
namespace Go.Proofs.YtjmaggfddinbkaaGreatDoor
open Go.RowKit
theorem finD_is {x : Nat} (h : x < 18446744073709551616) : finD x = finW x := by
  unfold finD finW classD classOf expD fracD canonD nanD
  refine decide_eq_decide.2 ?_
  by_cases hn : 9218868437227405312 < x % 9223372036854775808
  · rw [decide_eq_true hn, if_pos rfl]
    simp
    omega
  · rw [decide_eq_false hn, if_neg Bool.false_ne_true]
    split
    · omega
    split
    · omega
    split
    · omega
    split <;> omega
theorem fin_sub (x : Nat) (w : World) : (FloatKind.f64.format.order (arF .sub x x w) 0 == some .eq) = finW x := by
  unfold arF finW
  obtain ⟨h1, h2⟩ := sub_self_zero x
  by_cases hf : x % 9223372036854775808 < 9218868437227405312
  · rw [h1 hf, decide_eq_true hf]
    show (FloatKind.f64.format.order 0 0 == some .eq) = true
    decide
  · rw [h2 hf, decide_eq_false hf]
    exact c_nan (.inl (cut_nan x x _).1) _
def LayP (w : World) (p : Nat) (L : List (Option Nat)) (ov : Bool) : Prop :=
  ∃ sv ls, w.cell? ⟨p, 0, none⟩ = some sv ∧ w.cell? ⟨p, 1, none⟩ = some (.bool ov) ∧ (∀ i, w.frozen? ⟨p, i, none⟩ = false) ∧ OwnF w (p + 1) sv ls ∧ Words64 ls ∧ ls.map fv = L
theorem LayP.lt {w : World} {p : Nat} {L : List (Option Nat)} {ov : Bool} (h : LayP w p L ov) : p < w.heap.size := by
  obtain ⟨sv, ls, h0, _⟩ := h
  exact World.block_lt_of_cell? _ _ h0
theorem LayP.of {w w' : World} {p : Nat} {L : List (Option Nat)} {ov : Bool} (h : LayP w p L ov) (k : Within w w') : LayP w' p L ov := by
  have hl := h.lt
  obtain ⟨sv, ls, h0, h1, hf, ho, hw, hm⟩ := h
  exact ⟨sv, ls, (k.cells _ _ hl).trans h0, (k.cells _ _ hl).trans h1, fun i => (k.frozens _ i hl).trans (hf i), ho.of k, hw, hm⟩
theorem LayP.see {w : World} {p : Nat} {L : List (Option Nat)} {ov : Bool} (h : LayP w p L ov) (b : Bool) : LayP (w.setCell ⟨p, 1, none⟩ (.bool b)) p L b := by
  obtain ⟨sv, ls, h0, h1, hf, ho, hw, hm⟩ := h
  have hl := World.block_lt_of_cell? _ _ h0
  exact ⟨sv, ls, by go_simp, by go_simp, fun i => by go_simp, ho.set (Nat.lt_succ_self p) _, hw, hm⟩
def ResF (W : World) (L : List (Option Nat)) (er : Int) (e : Ending) (w' : World) : Prop := ∃ sv ls, e = .returned (.tuple #[sv, .int .i64 er]) ∧ OwnF w' W.heap.size sv ls ∧ Words64 ls ∧ ls.map fv = L ∧ Within W w'
theorem below_within {W w w' : World} {p : Nat} (h : Within W w) (k : Below p w w') (hp : W.heap.size ≤ p) : Within W w' := Below.trans h (Below.mono k hp)
set_option maxRecDepth 100000 in
set_option maxHeartbeats 600000 in
theorem efinite_any (x : Nat) (w : World) : Calls Tryz.prog 66 #[.float .f64 x] w fun e w' => e = .returned (.bool (finW x)) ∧ Within w w' := by
  have hsub := fun t x y w => run_ar .sub (.inl rfl) t x y Tryz.prog w
  have hf := fun w => fin_sub x w
  go_enter Tryz.func66, Tryz.ntmps66
  go_wp2
  go_ret
  exact ⟨rfl, (by repeat (first | with_reducible exact Within.refl _ | with_reducible assumption | with_reducible refine arW_within ?_ _ _ _ | with_reducible refine Within.alloc ?_ _ | with_reducible refine Within.drew ?_ | with_reducible refine Within.trans ?_ (by assumption)))⟩
set_option maxRecDepth 100000 in
set_option maxHeartbeats 600000 in
theorem see_ov (p a b : Nat) (L : List (Option Nat)) (w : World) (h : LayP w p L true) : Calls Tryz.prog 89 #[.pointer (some ⟨p, 0, none⟩), .float .f64 a, .float .f64 b] w fun e w' => e = .returned (.tuple #[.float .f64 a, .float .f64 b]) ∧ LayP w' p L (true || !finW a || !finW b) ∧ Below p w w' := by
  have hL0 := h.lt
  have hLL := Lib.hid h
  obtain ⟨sv, ls, s0, t0, u0, _⟩ := h
  have FI := Lib.hid (fun x w => efinite_any x w)
  have e : (true || !finW a || !finW b) = true := rfl
  rw [e]
  clear e
  go_enter Tryz.func89, Tryz.ntmps89
  go_wp2
  go_ret2
  exact ⟨rfl, hLL.out.see true, Below.setCell (p := ⟨p, 1, none⟩) (Below.refl _ _) (Nat.le_refl p) _⟩
set_option maxRecDepth 100000 in
set_option maxHeartbeats 600000 in
theorem see_a (p a b : Nat) (L : List (Option Nat)) (ha : finW a = false) (w : World) (h : LayP w p L false) : Calls Tryz.prog 89 #[.pointer (some ⟨p, 0, none⟩), .float .f64 a, .float .f64 b] w fun e w' => e = .returned (.tuple #[.float .f64 a, .float .f64 b]) ∧ LayP w' p L (false || !finW a || !finW b) ∧ Below p w w' := by
  have hL0 := h.lt
  have hLL := Lib.hid h
  obtain ⟨sv, ls, s0, t0, u0, _⟩ := h
  have FI := Lib.hid (fun x w => efinite_any x w)
  have e : (false || !finW a || !finW b) = true := by rw [ha]; rfl
  rw [e]
  clear e
  have HA := Lib.hid ha; clear ha
  go_enter Tryz.func89, Tryz.ntmps89
  go_wp2_with fail
  refine (FI.out a _).mono ?_; rintro e1 w1 ⟨rfl, hb1⟩
  rw [HA.out]
  have hL1 := hLL.out.of hb1
  obtain ⟨sv1, ls1, s1, t1, u1, _⟩ := hL1
  have z1 : p < w1.heap.size := Nat.lt_of_lt_of_le hL0 hb1.sizes
  have hL1 := hLL.out.of hb1
  go_wp2
  go_ret2
  exact ⟨rfl, (hL1).see true, Below.setCell (p := ⟨p, 1, none⟩) (Below.mono hb1 (Nat.le_of_lt hL0)) (Nat.le_refl p) _⟩
set_option maxRecDepth 100000 in
set_option maxHeartbeats 600000 in
theorem see_b (p a b : Nat) (L : List (Option Nat)) (ha : finW a = true) (w : World) (h : LayP w p L false) : Calls Tryz.prog 89 #[.pointer (some ⟨p, 0, none⟩), .float .f64 a, .float .f64 b] w fun e w' => e = .returned (.tuple #[.float .f64 a, .float .f64 b]) ∧ LayP w' p L (false || !finW a || !finW b) ∧ Below p w w' := by
  have hL0 := h.lt
  have hLL := Lib.hid h
  obtain ⟨sv, ls, s0, t0, u0, _⟩ := h
  have FI := Lib.hid (fun x w => efinite_any x w)
  have e : (false || !finW a || !finW b) = !finW b := by rw [ha]; rfl
  rw [e]
  clear e
  have HA := Lib.hid ha; clear ha
  go_enter Tryz.func89, Tryz.ntmps89
  go_wp2_with fail
  refine (FI.out a _).mono ?_; rintro e1 w1 ⟨rfl, hb1⟩
  rw [HA.out]
  have hL1 := hLL.out.of hb1
  obtain ⟨sv1, ls1, s1, t1, u1, _⟩ := hL1
  have z1 : p < w1.heap.size := Nat.lt_of_lt_of_le hL0 hb1.sizes
  have hL1 := hLL.out.of hb1
  go_wp2_with fail
  refine (FI.out b _).mono ?_; rintro e2 w2 ⟨rfl, hb2'⟩
  have hb2 := hb1.trans hb2'
  have hL2 := hLL.out.of hb2
  obtain ⟨sv2, ls2, s2, t2, u2, _⟩ := hL2
  have z2 : p < w2.heap.size := Nat.lt_of_lt_of_le hL0 hb2.sizes
  have hL2 := hLL.out.of hb2
  go_wp2
  go_ret2
  exact ⟨rfl, (hL2).see (!finW b), Below.setCell (p := ⟨p, 1, none⟩) (Below.mono hb2 (Nat.le_of_lt hL0)) (Nat.le_refl p) _⟩
theorem see_any (p a b : Nat) (L : List (Option Nat)) (ov : Bool) (w : World) (h : LayP w p L ov) : Calls Tryz.prog 89 #[.pointer (some ⟨p, 0, none⟩), .float .f64 a, .float .f64 b] w fun e w' => e = .returned (.tuple #[.float .f64 a, .float .f64 b]) ∧ LayP w' p L (ov || !finW a || !finW b) ∧ Below p w w' := by
  cases ov
  · cases ha : finW a
    · have := see_a p a b L ha w h
      rwa [ha] at this
    · have := see_b p a b L ha w h
      rwa [ha] at this
  · exact see_ov p a b L w h
theorem SlAt.two (w : World) (u v : Value) (E : TypeId) : SlAt (w.alloc (.cells #[u, v] E)) (some ⟨w.heap.size, 0, none⟩) [u, v] := fun _ => by
  refine ⟨_, rfl, by simp, fun j x hj => ?_⟩
  match j, hj with
  | 0, hj =>
    have e : u = x := by simpa using hj
    subst e
    rw [add_nought, World.cell?_alloc_at _ _ _ _ rfl]; rfl
  | 1, hj =>
    have e : v = x := by simpa using hj
    subst e
    rw [show (Addr.add ⟨w.heap.size, 0, none⟩ 1) = ⟨w.heap.size, 1, none⟩ from rfl, World.cell?_alloc_at _ _ _ _ rfl]; rfl
  | j + 2, hj => simp at hj
set_option maxRecDepth 100000 in
set_option maxHeartbeats 600000 in
theorem elay_no (p x : Nat) (L : List (Option Nat)) (ov : Bool) (hx : x % 9223372036854775808 = 0) (w : World) (h : LayP w p L ov) : Calls Tryz.prog 91 #[.pointer (some ⟨p, 0, none⟩), .float .f64 x] w fun e w' => e = .returned (.tuple #[]) ∧ LayP w' p (layV L (fv x)) ov ∧ Below p w w' := by
  have hz : (FloatKind.f64.format.order x 0 == some .eq) = true := by rw [c_zero, decide_eq_true hx]
  have hne : (FloatKind.f64.format.order x 0 != some .eq) = false := by simp [bne, hz]
  have hl : layV L (fv x) = L := by unfold layV; rw [nzV_fv, decide_eq_false (fun g => g hx)]; rfl
  rw [hl]
  clear hx hl
  have hLL := Lib.hid h; clear h
  go_enter Tryz.func91, Tryz.ntmps91
  go_wp2
  go_end0
  exact ⟨rfl, hLL.out, Below.refl _ _⟩
set_option maxRecDepth 100000 in
set_option maxHeartbeats 600000 in
theorem elay_yes (p x : Nat) (L : List (Option Nat)) (ov : Bool) (hx : ¬ x % 9223372036854775808 = 0) (hx2 : x < 18446744073709551616) (hn : L.length ≤ 1000000) (w : World) (h : LayP w p L ov) : Calls Tryz.prog 91 #[.pointer (some ⟨p, 0, none⟩), .float .f64 x] w fun e w' => e = .returned (.tuple #[]) ∧ LayP w' p (layV L (fv x)) ov ∧ Below p w w' := by
  have hz : (FloatKind.f64.format.order x 0 == some .eq) = false := by rw [c_zero, decide_eq_false hx]
  have hne : (FloatKind.f64.format.order x 0 != some .eq) = true := by simp [bne, hz]
  have hl : layV L (fv x) = L ++ [fv x] := by unfold layV; rw [nzV_fv, decide_eq_true hx]; rfl
  rw [hl]
  clear hx hl
  have hL0 := h.lt
  obtain ⟨sv, ls, s0, t0, u0, hown, hw, hm⟩ := h
  obtain ⟨A, c, rfl, _, _, _⟩ := hown.form
  have hlen : ls.length = L.length := by rw [← hm, List.length_map]
  obtain ⟨v', w', hrun, hown', hbl'⟩ := run_app_float w (p + 1) _ _ x hown (by omega) hL0
  obtain ⟨A2, c2, rfl, _, _, _⟩ := hown'.form
  have RUN := Lib.hid hrun; have HOW := Lib.hid hown'
  obtain ⟨n2, hn2⟩ : ∃ n2, n2 = (ls ++ [x]).length := ⟨_, rfl⟩
  rw [← hn2] at RUN HOW
  clear hn2
  have HW := Lib.hid hw; have HM := Lib.hid hm
  clear hrun hown' hown hw hm hlen hn
  have s1 : w'.cell? ⟨p, 1, none⟩ = some (.bool ov) := (hbl'.cell (p := ⟨p, 1, none⟩) (Nat.lt_succ_self p)).trans t0
  have s2 : ∀ i, w'.frozen? ⟨p, i, none⟩ = false := fun i => (hbl'.frozen (p := ⟨p, i, none⟩) (Nat.lt_succ_self p)).trans (u0 i)
  have s3 : w'.cell? ⟨p, 0, none⟩ = some (.slice A ls.length c) := (hbl'.cell (p := ⟨p, 0, none⟩) (Nat.lt_succ_self p)).trans s0
  have s4 : p < w'.heap.size := World.block_lt_of_cell? _ _ s3
  obtain ⟨n, hn⟩ : ∃ n, n = ls.length := ⟨_, rfl⟩
  rw [← hn] at s0 s3 RUN
  clear hn
  go_enter Tryz.func91, Tryz.ntmps91
  go_wp2_with (at_builtin; refine wpList_append_run rfl (.tmp 10) (.tmp 12) 24 rfl _ _ rfl rfl RUN.out ?_)
  go_end0
  exact ⟨rfl, ⟨_, ls ++ [x], by go_simp, by go_simp, fun i => by go_simp, (HOW.out).set (Nat.lt_succ_self p) _, (fun y hy => by rcases List.mem_append.1 hy with hy | hy; exact HW.out y hy; rcases List.mem_singleton.1 hy with rfl; exact hx2), by rw [List.map_append, HM.out]; rfl⟩, Below.setCell (p := ⟨p, 0, none⟩) (Below.mono hbl' (Nat.le_succ p)) (Nat.le_refl p) _⟩
theorem elay_any (p x : Nat) (L : List (Option Nat)) (ov : Bool) (hx : x < 18446744073709551616) (hn : L.length ≤ 1000000) (w : World) (h : LayP w p L ov) : Calls Tryz.prog 91 #[.pointer (some ⟨p, 0, none⟩), .float .f64 x] w fun e w' => e = .returned (.tuple #[]) ∧ LayP w' p (layV L (fv x)) ov ∧ Below p w w' := by
  by_cases h0 : x % 9223372036854775808 = 0
  · exact elay_no p x L ov h0 w h
  · exact elay_yes p x L ov h0 hx hn w h
def endE (L : List (Option Nat)) (ov : Bool) : Int := if ov then 5 else if 64 < L.length then 2 else 0
set_option maxRecDepth 100000 in
set_option maxHeartbeats 600000 in
theorem eend_ov (p : Nat) (L : List (Option Nat)) (w : World) (h : LayP w p L true) : Calls Tryz.prog 92 #[.pointer (some ⟨p, 0, none⟩)] w fun e w' => (∃ sv ls, e = .returned (.tuple #[sv, .int .i64 5]) ∧ OwnF w' (p + 1) sv ls ∧ Words64 ls ∧ ls.map fv = []) ∧ w = w' := by
  obtain ⟨sv, ls, s0, t0, u0, _⟩ := h
  go_enter Tryz.func92, Tryz.ntmps92
  go_wp2
  go_ret2
  exact ⟨⟨_, [], rfl, OwnF.nil_ _ _, (fun x hx => by cases hx), rfl⟩, rfl⟩
set_option maxRecDepth 100000 in
set_option maxHeartbeats 600000 in
theorem eend_long (p : Nat) (L : List (Option Nat)) (hn : 64 < L.length) (w : World) (h : LayP w p L false) : Calls Tryz.prog 92 #[.pointer (some ⟨p, 0, none⟩)] w fun e w' => (∃ sv ls, e = .returned (.tuple #[sv, .int .i64 2]) ∧ OwnF w' (p + 1) sv ls ∧ Words64 ls ∧ ls.map fv = []) ∧ w = w' := by
  obtain ⟨sv, ls, s0, t0, u0, hown, hw, hm⟩ := h
  obtain ⟨A, c, rfl, _, _, _⟩ := hown.form
  have hlen : ls.length = L.length := by rw [← hm, List.length_map]
  obtain ⟨n, hn2⟩ : ∃ n, n = ls.length := ⟨_, rfl⟩
  rw [← hn2] at s0
  have d1 : decide ((n : Int) > 64) = true := decide_eq_true (by omega)
  clear hown hw hm hlen hn hn2
  go_enter Tryz.func92, Tryz.ntmps92
  go_wp2
  go_ret2
  exact ⟨⟨_, [], rfl, OwnF.nil_ _ _, (fun x hx => by cases hx), rfl⟩, rfl⟩
set_option maxRecDepth 100000 in
set_option maxHeartbeats 600000 in
theorem eend_fine (p : Nat) (L : List (Option Nat)) (hn : L.length ≤ 64) (w : World) (h : LayP w p L false) : Calls Tryz.prog 92 #[.pointer (some ⟨p, 0, none⟩)] w fun e w' => (∃ sv ls, e = .returned (.tuple #[sv, .int .i64 0]) ∧ OwnF w' (p + 1) sv ls ∧ Words64 ls ∧ ls.map fv = L) ∧ w = w' := by
  obtain ⟨sv, ls, s0, t0, u0, hown, hw, hm⟩ := h
  obtain ⟨A, c, rfl, _, _, _⟩ := hown.form
  have hlen : ls.length = L.length := by rw [← hm, List.length_map]
  have HO := Lib.hid hown; have HW := Lib.hid hw; have HM := Lib.hid hm
  obtain ⟨n, hn2⟩ : ∃ n, n = ls.length := ⟨_, rfl⟩
  rw [← hn2] at s0 HO
  have d1 : decide ((n : Int) > 64) = false := decide_eq_false (by omega)
  clear hown hw hm hlen hn hn2
  go_enter Tryz.func92, Tryz.ntmps92
  go_wp2
  go_ret2
  exact ⟨⟨_, ls, rfl, HO.out, HW.out, HM.out⟩, rfl⟩
theorem eend_any (p : Nat) (L : List (Option Nat)) (ov : Bool) (w : World) (h : LayP w p L ov) : Calls Tryz.prog 92 #[.pointer (some ⟨p, 0, none⟩)] w fun e w' => (∃ sv ls, e = .returned (.tuple #[sv, .int .i64 (endE L ov)]) ∧ OwnF w' (p + 1) sv ls ∧ Words64 ls ∧ ls.map fv = (if endE L ov = 0 then L else [])) ∧ w = w' := by
  unfold endE
  cases ov
  · rw [if_neg Bool.false_ne_true]
    by_cases hn : 64 < L.length
    · rw [if_pos hn, if_neg (by decide)]; exact eend_long p L hn w h
    · rw [if_neg hn, if_pos rfl]; exact eend_fine p L (by omega) w h
  · rw [if_pos rfl, if_neg (by decide)]; exact eend_ov p L w h
end Go.Proofs.YtjmaggfddinbkaaGreatDoor
end

section
namespace Go.Proofs.YtjmaggfddinbkaaGreatDoor
open Go.RowKit
theorem LayP.made (w : World) (T : TypeId) : LayP (w.alloc (.cells #[.slice none 0 0, .bool false] T)) w.heap.size [] false := by
  refine ⟨.slice none 0 0, [], ?_, ?_, fun i => ?_, OwnF.nil_ _ _, (fun x hx => by cases hx), rfl⟩
  · rw [World.cell?_alloc_at _ _ _ _ rfl]; rfl
  · rw [World.cell?_alloc_at _ _ _ _ rfl]; rfl
  · simp
def gs (es : List Nat) (b k : Nat) : Lay := ((es.map fv).take k).foldl growStep ⟨fv b, [], false⟩
theorem gs_zero (es : List Nat) (b : Nat) : gs es b 0 = ⟨fv b, [], false⟩ := by unfold gs; rw [List.take_zero]; rfl
theorem gs_all (es : List Nat) (b : Nat) : gs es b es.length = growSt (es.map fv) (fv b) := by
  unfold gs growSt
  rw [List.take_of_length_le (by rw [List.length_map]; exact Nat.le_refl _)]
theorem getD_fv (es : List Nat) {k : Nat} (h : k < es.length) : (es.map fv).getD k none = fv (es.getD k 0) := by
  simp [List.getD, h]
theorem gs_succ (es : List Nat) (b : Nat) {k : Nat} (h : k < es.length) : gs es b (k + 1) = growStep (gs es b k) (fv (es.getD k 0)) := by
  unfold gs
  rw [fold_take growStep _ (es.map fv) none (by rw [List.length_map]; exact h), getD_fv es h]
theorem gs_len (es : List Nat) (b k : Nat) : (gs es b k).l.length ≤ es.length := by
  have := growSt_len ((es.map fv).take k) (fv b)
  have h2 : ((es.map fv).take k).length ≤ es.length := by rw [List.length_take, List.length_map]; exact Nat.min_le_right _ _
  exact Nat.le_trans this h2
set_option maxRecDepth 100000 in
set_option maxHeartbeats 600000 in
theorem egrow_any (A : Option Addr) (c : Nat) (es : List Nat) (b : Nat) (hw : Words64 es) (hl : es.length ≤ 100000) (hb : b < 18446744073709551616) (w : World) (hr : SlAt w A (f64v es)) : Calls Tryz.prog 67 #[.slice A es.length c, .float .f64 b] w (ResF w (growSt (es.map fv) (fv b)).out (growSt (es.map fv) (fv b)).err) := by
  have HW := Lib.hid hw; have HR := Lib.hid hr; have HL := Lib.hid hl; have HB := Lib.hid hb; have hl2 : es.length ≤ 1152921504606846976 := by omega
  clear hw hr hl hb
  have LAY0 := LayP.made w 94
  go_enter Tryz.func67, Tryz.ntmps67
  go_wp2
  go_loopw [7, 15] (fun qv iv wr => ∃ k q : Nat, k ≤ es.length ∧ iv = .int .i64 (k : Int) ∧ qv = .float .f64 q ∧ q < 18446744073709551616 ∧ fv q = (gs es b k).q ∧ LayP wr w.heap.size (gs es b k).l (gs es b k).ov ∧ Within w wr) (fun _ iv _ => es.length - (intOf iv).toNat)
  case atStart => exact ⟨0, b, Nat.zero_le _, rfl, rfl, HB.out, by rw [gs_zero], by rw [gs_zero]; exact LAY0, (by repeat (first | with_reducible exact Within.refl _ | with_reducible assumption | with_reducible refine arW_within ?_ _ _ _ | with_reducible refine Within.alloc ?_ _ | with_reducible refine Within.drew ?_ | with_reducible refine Within.trans ?_ (by assumption)))⟩
  case round =>
    obtain ⟨k, q, hk, rfl, rfl, hq, vq, hL, hin⟩ := hrel
    have HQ := Lib.hid hq; have VQ := Lib.hid vq; have LL := Lib.hid hL; clear hq vq hL
    by_cases hlt : k < es.length
    · obtain ⟨ad, rfl, hblk, hc⟩ := (HR.out.of hin).at hlt
      obtain ⟨x, hx⟩ : ∃ x, x = es.getD k 0 := ⟨_, rfl⟩
      have hx2 : x < 18446744073709551616 := by rw [hx]; exact HW.out.at hlt
      rw [← hx] at hc
      have HX2 := Lib.hid hx2; clear hx2
      have hnext := gs_succ es b hlt
      rw [← hx] at hnext
      have HN := Lib.hid hnext; clear hnext hx
      have TW := Lib.hid (fun w => etwo_any q x HQ.out HX2.out w)
      have hlen := Nat.le_trans (gs_len es b k) HL.out
      have HLEN := Lib.hid hlen; clear hlen
      go_wp2_with fail
      refine (TW.out _).mono ?_; rintro e1 w1 ⟨s, l, rfl, hs, hl', vs, vl, hb1⟩
      have HS := Lib.hid hs; have HL2 := Lib.hid hl'; have VS := Lib.hid vs; have VL := Lib.hid vl; clear hs hl' vs vl
      have L1 := Lib.hid (LL.out.of hb1)
      go_wp2_with fail
      refine (see_any _ s l _ _ _ L1.out).mono ?_; rintro e2 w2 ⟨rfl, hL2, hb2⟩
      have L2 := Lib.hid hL2; clear hL2
      go_wp2_with fail
      refine (elay_any _ l _ _ HL2.out (Nat.le_trans HLEN.out (by decide)) _ L2.out).mono ?_; rintro e3 w3 ⟨rfl, hL3, hb3⟩
      have hin3 : Within w w3 := below_within (below_within (hin.trans hb1) hb2 (Nat.le_refl _)) hb3 (Nat.le_refl _)
      have L3 := Lib.hid hL3; clear hL3 hb1 hb2 hb3
      go_wp2
      go_roundw
      case rel =>
        refine ⟨k + 1, s, hlt, by go_num, rfl, HS.out, ?_, ?_, hin3⟩
        · rw [HN.out, VS.out, VQ.out]; rfl
        · rw [HN.out]
          have h := L3.out
          rw [VL.out, VQ.out] at h
          have e : ((gs es b k).ov || !finW s || !finW l) = (gs es b k).see (twoS (gs es b k).q (fv x)) (twoL (gs es b k).q (fv x)) := by
            unfold Lay.see; rw [← VQ.out, ← VS.out, ← VL.out, finV_fv, finV_fv]
          rw [e] at h
          exact h
      case measure => simp [intOf]; omega
    · obtain rfl : k = es.length := by omega
      have vq2 := VQ.out
      rw [gs_all] at vq2
      have l0 := LL.out
      rw [gs_all] at l0
      have VQ2 := Lib.hid vq2; have LL2 := Lib.hid l0; clear vq2 l0
      have hlen : (growSt (es.map fv) (fv b)).l.length ≤ 1000000 := Nat.le_trans (growSt_len _ _) (by rw [List.length_map]; exact Nat.le_trans HL.out (by decide))
      have HLEN := Lib.hid hlen; clear hlen
      go_wp2_with fail
      refine (elay_any _ q _ _ HQ.out HLEN.out _ LL2.out).mono ?_; rintro e3 w3 ⟨rfl, hL3, hb3⟩
      rw [VQ2.out] at hL3
      have hin3 : Within w w3 := below_within hin hb3 (Nat.le_refl _)
      have L3 := Lib.hid hL3; clear hL3 hb3
      go_wp2_with fail
      refine (eend_any _ _ _ _ L3.out).mono ?_; rintro e4 w4 ⟨⟨sv, ls, rfl, hown, hw', hm⟩, rfl⟩
      have HO := Lib.hid hown; have HM := Lib.hid hm; have HWW := Lib.hid hw'; clear hown hm hw'
      go_wp2
      go_ret2
      exact ⟨_, ls, rfl, HO.out.less (Nat.le_succ _), HWW.out, HM.out, hin3⟩
end Go.Proofs.YtjmaggfddinbkaaGreatDoor
end

section
namespace Go.Proofs.YtjmaggfddinbkaaGreatDoor
open Go.RowKit
/-! amounts by their parts -/
theorem fin_canon {b : Nat} (h : b % 9223372036854775808 < 9218868437227405312) : canonD b = b := by
  unfold canonD
  rw [if_neg]
  unfold nanD
  simp; omega
theorem fin_exp {b : Nat} (h : b % 9223372036854775808 < 9218868437227405312) : expD b = b % 9223372036854775808 / 4503599627370496 ∧ fracD b = b % 4503599627370496 ∧ expD b < 2047 := by
  unfold expD fracD
  rw [fin_canon h]
  omega
theorem mag_parts {b : Nat} (h : b % 9223372036854775808 < 9218868437227405312) : Fp.mag Ieee.double (b % 9223372036854775808) = mantD b * 2 ^ (lowD b + 1074).toNat := by
  obtain ⟨h1, h2, h3⟩ := fin_exp h
  unfold Fp.mag mantD lowD
  rw [Fp.dB, h2, h1]
  by_cases h0 : b % 9223372036854775808 < 4503599627370496
  · rw [if_pos h0, if_pos (by omega), if_pos (by omega), show (((1 : Nat) : Int) - 1075 + 1074).toNat = 0 from rfl, Nat.pow_zero, Nat.mul_one]
    omega
  · rw [if_neg h0, if_neg (by omega), if_neg (by omega), show (((b % 9223372036854775808 / 4503599627370496 : Nat) : Int) - 1075 + 1074).toNat = b % 9223372036854775808 / 4503599627370496 - 1 by omega]
    congr 1
    omega
theorem lowD_ge (b : Nat) : -1074 ≤ lowD b := by unfold lowD; split <;> omega
theorem mag_odd {b : Nat} (h : b % 9223372036854775808 < 9218868437227405312) : Fp.mag Ieee.double (b % 9223372036854775808) = pMantD b * 2 ^ (pExpD b + 1074).toNat := by
  rw [mag_parts h]
  obtain ⟨_, _, h3⟩ := fin_exp h
  unfold pMantD pExpD
  rw [if_neg (by omega)]
  by_cases h0 : mantD b = 0
  · rw [if_pos (.inr h0), h0, Nat.zero_mul, Nat.zero_div, Nat.zero_mul]
  · rw [if_neg (by omega)]
    obtain ⟨m, e1, e2, e3⟩ := odd_split h0 (by have := mantD_lt b; omega)
    have hl := lowD_ge b
    generalize Lib.ctz 64 (mantD b) = k at *
    rw [show (lowD b + (k : Int) + 1074).toNat = k + (lowD b + 1074).toNat by omega, Nat.pow_add, ← Nat.mul_assoc]
    congr 1
    rw [e2, Nat.mul_div_cancel_left _ (Nat.two_pow_pos k), Nat.mul_comm]
theorem sg_is {b : Nat} (hb : b < 18446744073709551616) : Fp.sg Ieee.double b = decide (9223372036854775808 ≤ b) := by
  unfold Fp.sg
  rw [show Ieee.double.signWeight = 9223372036854775808 by decide +kernel]
  exact decide_eq_decide.2 (by omega)
theorem whole_un {b : Nat} (hb : b < 18446744073709551616) (h : b % 9223372036854775808 < 9218868437227405312) : P64.wholeI b = Fp.un Ieee.double b := by
  obtain ⟨_, _, h3⟩ := fin_exp h
  have hn0 : pNegD b = decide (9223372036854775808 ≤ b) := by
    unfold pNegD negD
    rw [if_neg (by omega), fin_canon h]
  unfold P64.wholeI Fp.un P64.sgv
  rw [hn0, Fp.rg64, mag_odd h]
  have hs := sg_is hb
  rw [hs]
  by_cases hn : 9223372036854775808 ≤ b
  · rw [if_pos (decide_eq_true hn), if_pos (decide_eq_true hn), Int.neg_mul]; simp
  · rw [if_neg (by simpa using hn), if_neg (by simpa using hn)]; simp
theorem top_le {p : Int} (h : 1023 < p) : Fp.dtop ≤ (p + 1074).toNat := by
  have : Fp.dtop = 2098 := rfl
  omega
theorem pExp_hi {b : Nat} (h : b % 9223372036854775808 < 9218868437227405312) : pExpD b ≤ 1023 := by
  by_cases h0 : pMantD b = 0
  · have : pExpD b = 0 := by
      obtain ⟨_, _, h3⟩ := fin_exp h
      unfold pMantD at h0
      rw [if_neg (by omega)] at h0
      unfold pExpD
      by_cases hm : mantD b = 0
      · rw [if_pos (.inr hm)]
      · obtain ⟨m, e1, e2, e3⟩ := odd_split hm (by have := mantD_lt b; omega)
        unfold oddM at e1; omega
    omega
  · have h1 := mag_odd h
    have h2 : Fp.mag Ieee.double (b % 9223372036854775808) < Fp.mag Ieee.double 9218868437227405312 := (Fp.mag_lt_iff Ieee.double).2 h
    have h3 : Fp.mag Ieee.double 9218868437227405312 = 2 ^ Fp.dtop := by
      have := Fp.mag_infD
      rw [Fp.dI] at this
      exact this
    rcases Int.lt_or_le 1023 (pExpD b) with hc | hc
    · exfalso
      have h4 : 2 ^ Fp.dtop ≤ 2 ^ (pExpD b + 1074).toNat := Nat.pow_le_pow_right (by decide) (top_le hc)
      have h5 : 2 ^ (pExpD b + 1074).toNat ≤ pMantD b * 2 ^ (pExpD b + 1074).toNat := Nat.le_mul_of_pos_left _ (Nat.pos_of_ne_zero h0)
      rw [h1, h3] at h2
      exact absurd (Nat.lt_of_lt_of_le h2 (Nat.le_trans h4 h5)) (Nat.lt_irrefl _)
    · exact hc
end Go.Proofs.YtjmaggfddinbkaaGreatDoor
end

section
namespace Go.Proofs.YtjmaggfddinbkaaGreatDoor
open Go.RowKit
theorem odd_one : oddM 1 = 1 := by decide
theorem ctz_one : Lib.ctz 64 1 = 0 := by decide
theorem bitLen_one : Lib.bitLen 1 = 1 := by decide
theorem down_one (e : Int) : downD 1 e = min 52 (e + 1074).toNat := by
  unfold downD oddE
  rw [odd_one, ctz_one, bitLen_one]
  omega
theorem bad_one {e : Int} (h1 : -1074 ≤ e) (h2 : e ≤ 1023) : badD 1 e = false := by
  unfold badD oddE
  rw [odd_one, ctz_one, bitLen_one, decide_eq_false (by omega), decide_eq_false (by omega), decide_eq_false (by omega), decide_eq_false (by omega)]; rfl
theorem pow52 : (2 : Nat) ^ 52 = 4503599627370496 := by decide
theorem join_low {t : Nat} (h : t < 4503599627370496) : joinD false 0 t = t := by
  unfold joinD bitsOfD
  rw [if_neg (by omega), if_neg Bool.false_ne_true, show (0 : Int).toNat * 4503599627370496 + t + 0 = t by simp, fin_canon (by omega)]
theorem join_high {n : Nat} (h : n ≤ 2046) : joinD false (n : Int) 0 = n * 4503599627370496 := by
  unfold joinD bitsOfD
  rw [if_neg (by omega), if_neg Bool.false_ne_true, Int.toNat_natCast, Nat.add_zero, fin_canon (by omega)]
theorem last_is {e : Int} (h1 : -1074 ≤ e) (h2 : e ≤ 1023) : madeD false 1 e < 9218868437227405312 ∧ Fp.mag Ieee.double (madeD false 1 e) = 2 ^ (e + 1074).toNat := by
  unfold madeD fieldD topD
  rw [if_neg (by decide), bad_one h1 h2, if_neg Bool.false_ne_true, odd_one, down_one, Nat.one_mul]
  rcases Nat.lt_or_ge (e + 1074).toNat 52 with hk | hk
  · rw [Nat.min_eq_right (Nat.le_of_lt hk)]
    have ht : 2 ^ (e + 1074).toNat < 4503599627370496 := by rw [← pow52]; exact Nat.pow_lt_pow_right (by decide) hk
    generalize 2 ^ (e + 1074).toNat = t at *
    rw [if_pos ht, if_neg (by omega), Nat.mod_eq_of_lt ht, join_low ht]
    exact ⟨by omega, by rw [Fp.mag_lt _ _ (by rw [Fp.dB]; exact ht)]⟩
  · rw [Nat.min_eq_left hk, pow52, if_neg (Nat.lt_irrefl 4503599627370496), show oddE 1 e - ((52 : Nat) : Int) + 1075 = (((e + 1074).toNat - 51 : Nat) : Int) by unfold oddE; rw [ctz_one]; omega]
    generalize hK : (e + 1074).toNat = K at *
    rw [if_neg (by omega), join_high (by omega)]
    refine ⟨by omega, ?_⟩
    unfold Fp.mag
    rw [Fp.dB, if_neg (by omega), Nat.mul_mod_left, Nat.add_zero, Nat.mul_div_cancel _ (by decide), ← pow52, ← Nat.pow_add, show 52 + (K - 51 - 1) = K by omega]
theorem un_pos {r : Nat} (h : r < 9223372036854775808) : Fp.un Ieee.double r = Fp.mag Ieee.double r := by
  unfold Fp.un
  rw [sg_is (by omega), decide_eq_false (by omega), if_neg Bool.false_ne_true, Fp.rg64, Nat.mod_eq_of_lt h]
def lowB (a b : Nat) : Bool := decide ((Fp.un Ieee.double a).natAbs < 2 ^ (pExpD b + 1074).toNat)
def absB (x : Nat) : Nat := if Fp.un Ieee.double x < 0 then x - 9223372036854775808 else x
theorem sub63 {x : Nat} (h : 9223372036854775808 ≤ x) (hx : x < 18446744073709551616) (hf : x % 9223372036854775808 < 9218868437227405312) : x - 9223372036854775808 < 9223372036854775808 ∧ (x - 9223372036854775808) % 9223372036854775808 < 9218868437227405312 ∧ x - 9223372036854775808 = x % 9223372036854775808 := by omega
theorem absB_is {x : Nat} (hx : x < 18446744073709551616) (h : x % 9223372036854775808 < 9218868437227405312) : absB x < 18446744073709551616 ∧ absB x % 9223372036854775808 < 9218868437227405312 ∧ Fp.un Ieee.double (absB x) = (Fp.un Ieee.double x).natAbs := by
  unfold absB
  by_cases h0 : Fp.un Ieee.double x < 0
  · rw [if_pos h0]
    have hs := un_sign (x := x) (by omega)
    rw [decide_eq_true h0] at hs
    rw [sg_is hx] at hs
    have hge := of_decide_eq_true hs
    obtain ⟨k1, k2, k3⟩ := sub63 hge hx h
    refine ⟨Nat.lt_trans k1 (by decide), k2, ?_⟩
    rw [un_pos k1, un_abs, Fp.rg64, k3]
  · rw [if_neg h0]
    exact ⟨hx, h, (Int.natAbs_of_nonneg (Int.not_lt.1 h0)).symm⟩
theorem geq_low {a b : Nat} (ha : a < 18446744073709551616) (fa : a % 9223372036854775808 < 9218868437227405312) (fb : b % 9223372036854775808 < 9218868437227405312) :
    (FloatKind.f64.format.order (absB a) (madeD false 1 (pExpD b)) == some .gt || FloatKind.f64.format.order (absB a) (madeD false 1 (pExpD b)) == some .eq) = !lowB a b := by
  obtain ⟨h1, h2⟩ := last_is (P64.pExpD_range b).1 (pExp_hi fb)
  obtain ⟨_, k2, k3⟩ := absB_is ha fa
  rw [c_ge (by omega) (by rw [Nat.mod_eq_of_lt (by omega)]; omega), k3, un_pos (by omega), h2]
  unfold lowB
  generalize 2 ^ (pExpD b + 1074).toNat = P
  by_cases h : (Fp.un Ieee.double a).natAbs < P
  · rw [decide_eq_true h, decide_eq_false (by omega)]; rfl
  · rw [decide_eq_false h, decide_eq_true (by omega)]; rfl
theorem neg_flip {a : Nat} (ha : a < 9223372036854775808) : a ^^^ 2 ^ 63 = a + 9223372036854775808 := by
  have := Nat.two_pow_add_eq_or_of_lt (i := 63) (b := a) ha 1
  rw [Nat.mul_one] at this
  rw [show a + 9223372036854775808 = 2 ^ 63 + a by omega, this, Nat.xor_comm]
  apply Nat.eq_of_testBit_eq
  intro i
  rw [Nat.testBit_xor, Nat.testBit_or, Nat.testBit_two_pow]
  by_cases hi : 63 = i
  · subst hi
    rw [Nat.testBit_lt_two_pow ha]; simp
  · simp [hi]
theorem neg_float {x : Nat} (h : 9223372036854775808 ≤ x) (hx : x < 18446744073709551616) : Go.Op.negFloat .f64 x = x - 9223372036854775808 := by
  have g := neg_flip (a := x - 9223372036854775808) (by omega)
  rw [show x - 9223372036854775808 + 9223372036854775808 = x by omega] at g
  show x ^^^ 2 ^ 63 = _
  conv => lhs; rw [← g]
  rw [Nat.xor_assoc, Nat.xor_self, Nat.xor_zero]
theorem un_neg_ge {x : Nat} (hx : x < 18446744073709551616) (h0 : Fp.un Ieee.double x < 0) : 9223372036854775808 ≤ x := by
  have hs := un_sign (x := x) (by omega)
  rw [decide_eq_true h0, sg_is hx] at hs
  exact of_decide_eq_true hs
set_option maxHeartbeats 600000 in
theorem Eabs (x : Nat) (hx : x < 18446744073709551616) (h : x % 9223372036854775808 < 9218868437227405312) (w : World) : Calls Tryz.prog 74 #[.float .f64 x] w fun e w' => e = .returned (.float .f64 (absB x)) ∧ w = w' := by
  have h0 := c_lt (x := x) (y := 0) (by omega) (by decide)
  rw [show Fp.un Ieee.double 0 = 0 by rw [un_pos (by decide), Fp.mag_zero]; rfl] at h0
  unfold absB
  by_cases hn : Fp.un Ieee.double x < 0
  · rw [decide_eq_true hn] at h0
    rw [if_pos hn]
    have hf := neg_float (un_neg_ge hx hn) hx
    clear hn
    go_enter Tryz.func74, Tryz.ntmps74
    go_wp2
    go_ret
    exact ⟨by rw [← hf]; rfl, rfl⟩
  · rw [decide_eq_false hn] at h0
    rw [if_neg hn]
    clear hn
    go_enter Tryz.func74, Tryz.ntmps74
    go_wp2
    go_ret
    exact ⟨rfl, rfl⟩
set_option maxRecDepth 100000 in
set_option maxHeartbeats 600000 in
theorem Elast (b : Nat) (hb : b < 18446744073709551616) (w : World) (hT : Tab w) : Calls Tryz.prog 75 #[.float .f64 b] w fun e w' => e = .returned (.float .f64 (madeD false 1 (pExpD b))) ∧ Within w w' := by
  have HB := Lib.hid hb; have HT := Lib.hid hT; clear hb hT
  have CO := Lib.hid (fun w hT => Of_D false 1 (pExpD b) (by decide) w hT)
  have CP := Lib.hid (Parts_D b HB.out w HT.out)
  obtain ⟨e, he⟩ : ∃ e, e = pExpD b := ⟨_, rfl⟩
  rw [← he] at CO CP ⊢
  obtain ⟨r, hr⟩ : ∃ r, r = madeD false 1 e := ⟨_, rfl⟩
  obtain ⟨er, her⟩ : ∃ er, er = madeED 1 e := ⟨_, rfl⟩
  rw [← hr, ← her] at CO
  rw [← hr]
  clear hr her he
  go_enter Tryz.func75, Tryz.ntmps75
  go_wp2_with fail
  refine CP.out.mono ?_; rintro e1 w1 ⟨rfl, hb1⟩
  go_wp2_with fail
  refine (CO.out _ (HT.out.of (hb1.alloc _))).mono ?_; rintro e2 w2 ⟨rfl, hb2⟩
  go_wp2
  go_ret
  exact ⟨rfl, (hb1.alloc _).trans hb2⟩
end Go.Proofs.YtjmaggfddinbkaaGreatDoor
end

section
namespace Go.Proofs.YtjmaggfddinbkaaGreatDoor
open Go.RowKit
section
variable {P : Program} {ops : Array Oper}
end
def okAt (l : List Nat) (i : Nat) : Bool := decide (l.getD i 0 % 9223372036854775808 ≠ 0) && (decide (i = 0) || lowB (l.getD (i - 1) 0) (l.getD i 0))
def isB (l : List Nat) : Bool := decide (l.length ≤ 64) && l.all finD && (List.range l.length).all (okAt l)
theorem isB_no {l : List Nat} {k : Nat} (hk : k < l.length) (h : okAt l k = false) : isB l = false := by
  unfold isB
  have : (List.range l.length).all (okAt l) = false := by
    rw [List.all_eq_false]
    exact ⟨k, List.mem_range.2 hk, by rw [h]; decide⟩
  rw [this, Bool.and_false]
theorem isB_yes {l : List Nat} (h1 : l.length ≤ 64) (h2 : l.all finD = true) (h3 : ∀ k, k < l.length → okAt l k = true) : isB l = true := by
  unfold isB
  rw [decide_eq_true h1, h2, List.all_eq_true.2 (fun k hk => h3 k (List.mem_range.1 hk))]; rfl
theorem isB_long {l : List Nat} (h : 64 < l.length) : isB l = false := by
  unfold isB
  rw [decide_eq_false (by omega)]; rfl
theorem isB_fin {l : List Nat} (h : l.all finD = false) : isB l = false := by
  unfold isB
  rw [h]; simp
theorem fin_at {l : List Nat} (hw : Words64 l) (h : l.all finD = true) {k : Nat} (hk : k < l.length) : l.getD k 0 % 9223372036854775808 < 9218868437227405312 := by
  have hm : l.getD k 0 ∈ l := by rw [List.getD, List.getElem?_eq_getElem hk]; exact List.getElem_mem hk
  have := List.all_eq_true.1 h _ hm
  rw [finD_is (hw _ hm)] at this
  exact of_decide_eq_true this
set_option maxRecDepth 100000 in
set_option maxHeartbeats 600000 in
theorem eis_long (A : Option Addr) (c : Nat) (es : List Nat) (hw : Words64 es) (hl : es.length ≤ 1152921504606846976) (h64 : 64 < es.length) (w : World) (hT : Tab w) (hr : SlAt w A (f64v es)) : Calls Tryz.prog 17 #[.slice A es.length c] w fun e w' => e = .returned (.bool false) ∧ Within w w' := by
  have d : decide ((es.length : Int) > 64) = true := decide_eq_true (by omega)
  clear hw hr hT
  go_enter Tryz.func17, Tryz.ntmps17
  go_wp2
  go_ret
  exact ⟨rfl, Within.refl _⟩
set_option maxRecDepth 100000 in
set_option maxHeartbeats 600000 in
theorem eis_fin (A : Option Addr) (c : Nat) (es : List Nat) (hw : Words64 es) (hl : es.length ≤ 1152921504606846976) (h64 : es.length ≤ 64) (hf : es.all finD = false) (w : World) (hT : Tab w) (hr : SlAt w A (f64v es)) : Calls Tryz.prog 17 #[.slice A es.length c] w fun e w' => e = .returned (.bool false) ∧ Within w w' := by
  have d : decide ((es.length : Int) > 64) = false := decide_eq_false (by omega)
  have CF := Lib.hid (Finite_any A c es hw hl w hr)
  rw [hf] at CF
  clear hw hr hT hf
  go_enter Tryz.func17, Tryz.ntmps17
  go_wp2_with fail
  refine CF.out.mono ?_; rintro e1 w1 ⟨rfl, hb1⟩
  go_wp2
  go_ret
  exact ⟨rfl, hb1⟩
set_option maxRecDepth 100000 in
set_option maxHeartbeats 600000 in
theorem eis_main (A : Option Addr) (c : Nat) (es : List Nat) (hw : Words64 es) (hl : es.length ≤ 1152921504606846976) (h64 : es.length ≤ 64) (hf : es.all finD = true) (w : World) (hT : Tab w) (hr : SlAt w A (f64v es)) : Calls Tryz.prog 17 #[.slice A es.length c] w fun e w' => e = .returned (.bool (isB es)) ∧ Within w w' := by
  have d : decide ((es.length : Int) > 64) = false := decide_eq_false (by omega)
  have CF := Lib.hid (Finite_any A c es hw hl w hr)
  rw [hf] at CF
  have HW := Lib.hid hw; have HR := Lib.hid hr; have HT := Lib.hid hT; have HF := Lib.hid hf; have H64 := Lib.hid h64; clear hw hr hT hf
  go_enter Tryz.func17, Tryz.ntmps17
  go_wp2_with fail
  refine CF.out.mono ?_; rintro e1 w1 ⟨rfl, hb1⟩
  go_wp2
  go_loopw [14] (fun iv wr => ∃ k : Nat, k ≤ es.length ∧ iv = .int .i64 (k : Int) ∧ (∀ j, j < k → okAt es j = true) ∧ Within w wr) (fun iv _ => es.length - (intOf iv).toNat)
  case atStart => exact ⟨0, Nat.zero_le _, rfl, fun j hj => absurd hj (Nat.not_lt_zero _), hb1⟩
  case round =>
    obtain ⟨k, hk, rfl, hok, hin⟩ := hrel
    have HOK := Lib.hid hok; clear hok
    by_cases hlt : k < es.length
    · obtain ⟨ad, hA, hblk, hc⟩ := (HR.out.of hin).at hlt
      have fx := fin_at HW.out HF.out hlt
      have hx64 := HW.out.at hlt
      obtain ⟨x, hx⟩ : ∃ x, x = es.getD k 0 := ⟨_, rfl⟩
      rw [← hx] at hc fx hx64
      by_cases h0 : x % 9223372036854775808 = 0
      · have hz : (FloatKind.f64.format.order x 0 == some .eq) = true := by rw [c_zero, decide_eq_true h0]
        have NO := Lib.hid (isB_no hlt (by unfold okAt; rw [← hx, decide_eq_false (by omega)]; rfl))
        subst hA
        have cx := hc
        clear hc fx hx64 hx h0
        go_wp2
        go_region
        go_wp2
        go_ret
        exact ⟨(by rw [NO.out]; first | done | rfl), (by repeat (first | with_reducible exact Within.refl _ | with_reducible assumption | with_reducible refine arW_within ?_ _ _ _ | with_reducible refine Within.alloc ?_ _ | with_reducible refine Within.drew ?_ | with_reducible refine Within.trans ?_ (by assumption)))⟩
      · have hz : (FloatKind.f64.format.order x 0 == some .eq) = false := by rw [c_zero, decide_eq_false h0]
        rcases k with _ | j
        · have OKN := Lib.hid (show ∀ j, j < 0 + 1 → okAt es j = true by
            intro j hj
            have : j = 0 := by omega
            subst this
            unfold okAt
            rw [← hx, decide_eq_true (by omega)]; rfl)
          subst hA
          have cx : wr.cell? ad = some (.float .f64 x) := hc
          clear hc fx hx64 hx h0
          go_wp2
          go_region
          go_wp2
          go_roundw
          case rel => exact ⟨0 + 1, hlt, by go_num, OKN.out, (by repeat (first | with_reducible exact Within.refl _ | with_reducible assumption | with_reducible refine arW_within ?_ _ _ _ | with_reducible refine Within.alloc ?_ _ | with_reducible refine Within.drew ?_ | with_reducible refine Within.trans ?_ (by assumption)))⟩
          case measure => simp [intOf]; omega
        · obtain ⟨ad', hA', _, hc'⟩ := (HR.out.of hin).at (k := j) (by omega)
          have ead : ad = ad' := by rw [hA] at hA'; injection hA' with h
          subst ead
          have fy := fin_at HW.out HF.out (k := j) (by omega)
          have hy64 := HW.out.at (k := j) (by omega)
          obtain ⟨y, hy⟩ : ∃ y, y = es.getD j 0 := ⟨_, rfl⟩
          rw [← hy] at hc' fy hy64
          have CA := Lib.hid (fun w => Eabs y hy64 fy w)
          have CL := Lib.hid (fun w hT => Elast x hx64 w hT)
          have hge := geq_low hy64 fy fx
          obtain ⟨a, ha⟩ : ∃ a, a = absB y := ⟨_, rfl⟩
          obtain ⟨r, hr⟩ : ∃ r, r = madeD false 1 (pExpD x) := ⟨_, rfl⟩
          rw [← ha] at CA hge
          rw [← hr] at CL hge
          clear ha hr
          have e9 : IntKind.i64.wrap (((j + 1 : Nat) : Int) - 1) = (j : Int) := by rw [IntWalk.i64_in _ (by omega)]; omega
          have e8 : decide (((j + 1 : Nat) : Int) > 0) = true := decide_eq_true (by omega)
          have e8' : decide ((j : Int) + 1 > 0) = true := decide_eq_true (by omega)
          have hTr : Tab wr := HT.out.of hin
          have HIN := Lib.hid hin; clear hin
          subst hA
          have cx := hc
          have cy := hc'
          clear hc hc' hA' fx fy hx64 hy64
          obtain ⟨k, hke⟩ : ∃ k, k = j + 1 := ⟨_, rfl⟩
          cases hlb : lowB y x
          · rw [hlb] at hge
            have NO := Lib.hid (isB_no hlt (by unfold okAt; rw [← hx, Nat.add_sub_cancel, ← hy, hlb, decide_eq_false (Nat.succ_ne_zero j)]; simp))
            clear hlb hx hy h0
            rw [← hke] at hlt cx e8 e9 ⊢
            have hjl : j < es.length := by omega
            have hk0 : 0 < k := by omega
            have HKE := Lib.hid hke; clear hke e8'
            go_wp2
            refine wp_region_schG (fun W => W.cell? (ad.add k) = some (.float .f64 x) ∧ W.cell? (ad.add j) = some (.float .f64 y) ∧ ad.block < W.heap.size ∧ Tab W ∧ Within w W) 22 (.firm 0 (.firm 1 (.firm 2 (.firm 3 (.firm 4 (.firm 5 (.firm 6 (.firm 7 (.firm 8 (.firm 9 (.firm 10 (.firm 11 (.firm 12 (.firm 13 (.firm 15 (.firm 16 (.firm 17 (.firm 18 (.one 14 (.one 19 (.firm 20 (.firm 21 (.one 22 .nil))))))))))))))))))))))) (by kernel_rfl) (by kernel_rfl) ⟨cx, cy, hblk, hTr, HIN.out⟩ ?_
            rintro w0 ⟨cx, cy, hblk, hTw, hw0⟩
            try simp only [Act.put, List.setIfInBounds_toArray, List.set_cons_zero, List.set_cons_succ]
            apply sch_firm rfl rfl (by repeat (first | with_reducible exact Within.refl _ | with_reducible assumption | with_reducible refine Within.alloc ?_ _ | with_reducible refine Within.drew ?_ | with_reducible refine Within.drewN ?_ _ | with_reducible refine Within.setCell ?_ (by first | (simp; done) | (simp; omega)) _ | with_reducible refine Within.trans ?_ (by assumption)))
            · intro wq hq
              have hcq := hq.cells
              have gx := (hq.cell (p := ad.add k) (by rw [add_block]; exact hblk)).trans cx
              have gxb := Nat.lt_of_lt_of_le hblk hq.size
              have gy := (hq.cell (p := ad.add j) (by rw [add_block]; exact hblk)).trans cy
              clear hq
              go_simp
              first | rfl | (trace_state; fail)
            try simp only [Act.put, List.setIfInBounds_toArray, List.set_cons_zero, List.set_cons_succ]
            apply sch_firm rfl rfl (by repeat (first | with_reducible exact Within.refl _ | with_reducible assumption | with_reducible refine Within.alloc ?_ _ | with_reducible refine Within.drew ?_ | with_reducible refine Within.drewN ?_ _ | with_reducible refine Within.setCell ?_ (by first | (simp; done) | (simp; omega)) _ | with_reducible refine Within.trans ?_ (by assumption)))
            · intro wq hq
              have hcq := hq.cells
              have gx := (hq.cell (p := ad.add k) (by rw [add_block]; exact hblk)).trans cx
              have gxb := Nat.lt_of_lt_of_le hblk hq.size
              have gy := (hq.cell (p := ad.add j) (by rw [add_block]; exact hblk)).trans cy
              clear hq
              go_simp
              first | rfl | (trace_state; fail)
            try simp only [Act.put, List.setIfInBounds_toArray, List.set_cons_zero, List.set_cons_succ]
            apply sch_firm rfl rfl (by repeat (first | with_reducible exact Within.refl _ | with_reducible assumption | with_reducible refine Within.alloc ?_ _ | with_reducible refine Within.drew ?_ | with_reducible refine Within.drewN ?_ _ | with_reducible refine Within.setCell ?_ (by first | (simp; done) | (simp; omega)) _ | with_reducible refine Within.trans ?_ (by assumption)))
            · intro wq hq
              have hcq := hq.cells
              have gx := (hq.cell (p := ad.add k) (by rw [add_block]; exact hblk)).trans cx
              have gxb := Nat.lt_of_lt_of_le hblk hq.size
              have gy := (hq.cell (p := ad.add j) (by rw [add_block]; exact hblk)).trans cy
              clear hq
              go_simp
              first | rfl | (trace_state; fail)
            try simp only [Act.put, List.setIfInBounds_toArray, List.set_cons_zero, List.set_cons_succ]
            apply sch_firm rfl rfl (by repeat (first | with_reducible exact Within.refl _ | with_reducible assumption | with_reducible refine Within.alloc ?_ _ | with_reducible refine Within.drew ?_ | with_reducible refine Within.drewN ?_ _ | with_reducible refine Within.setCell ?_ (by first | (simp; done) | (simp; omega)) _ | with_reducible refine Within.trans ?_ (by assumption)))
            · intro wq hq
              have hcq := hq.cells
              have gx := (hq.cell (p := ad.add k) (by rw [add_block]; exact hblk)).trans cx
              have gxb := Nat.lt_of_lt_of_le hblk hq.size
              have gy := (hq.cell (p := ad.add j) (by rw [add_block]; exact hblk)).trans cy
              clear hq
              go_simp
              first | rfl | (trace_state; fail)
            try simp only [Act.put, List.setIfInBounds_toArray, List.set_cons_zero, List.set_cons_succ]
            apply sch_firm rfl rfl (by repeat (first | with_reducible exact Within.refl _ | with_reducible assumption | with_reducible refine Within.alloc ?_ _ | with_reducible refine Within.drew ?_ | with_reducible refine Within.drewN ?_ _ | with_reducible refine Within.setCell ?_ (by first | (simp; done) | (simp; omega)) _ | with_reducible refine Within.trans ?_ (by assumption)))
            · intro wq hq
              have hcq := hq.cells
              have gx := (hq.cell (p := ad.add k) (by rw [add_block]; exact hblk)).trans cx
              have gxb := Nat.lt_of_lt_of_le hblk hq.size
              have gy := (hq.cell (p := ad.add j) (by rw [add_block]; exact hblk)).trans cy
              clear hq
              go_simp
              first | rfl | (trace_state; fail)
            try simp only [Act.put, List.setIfInBounds_toArray, List.set_cons_zero, List.set_cons_succ]
            apply sch_firm rfl rfl (by repeat (first | with_reducible exact Within.refl _ | with_reducible assumption | with_reducible refine Within.alloc ?_ _ | with_reducible refine Within.drew ?_ | with_reducible refine Within.drewN ?_ _ | with_reducible refine Within.setCell ?_ (by first | (simp; done) | (simp; omega)) _ | with_reducible refine Within.trans ?_ (by assumption)))
            · intro wq hq
              have hcq := hq.cells
              have gx := (hq.cell (p := ad.add k) (by rw [add_block]; exact hblk)).trans cx
              have gxb := Nat.lt_of_lt_of_le hblk hq.size
              have gy := (hq.cell (p := ad.add j) (by rw [add_block]; exact hblk)).trans cy
              clear hq
              go_simp
              first | rfl | (trace_state; fail)
            try simp only [Act.put, List.setIfInBounds_toArray, List.set_cons_zero, List.set_cons_succ]
            apply sch_want rfl (by first | rfl | decide | (simp [Region.wanted, yielded]; done) | (simp [Region.wanted, yielded]; assumption)) (by repeat (first | with_reducible exact Within.refl _ | with_reducible assumption | with_reducible refine Within.alloc ?_ _ | with_reducible refine Within.drew ?_ | with_reducible refine Within.drewN ?_ _ | with_reducible refine Within.setCell ?_ (by first | (simp; done) | (simp; omega)) _ | with_reducible refine Within.trans ?_ (by assumption)))
            · intro wq hq
              have hcq := hq.cells
              have gx := (hq.cell (p := ad.add k) (by rw [add_block]; exact hblk)).trans cx
              have gxb := Nat.lt_of_lt_of_le hblk hq.size
              have gy := (hq.cell (p := ad.add j) (by rw [add_block]; exact hblk)).trans cy
              clear hq
              go_simp
              first | rfl | (trace_state; fail)
            try simp only [Act.put, List.setIfInBounds_toArray, List.set_cons_zero, List.set_cons_succ]
            apply sch_want rfl (by first | rfl | decide | (simp [Region.wanted, yielded]; done) | (simp [Region.wanted, yielded]; assumption)) (by repeat (first | with_reducible exact Within.refl _ | with_reducible assumption | with_reducible refine Within.alloc ?_ _ | with_reducible refine Within.drew ?_ | with_reducible refine Within.drewN ?_ _ | with_reducible refine Within.setCell ?_ (by first | (simp; done) | (simp; omega)) _ | with_reducible refine Within.trans ?_ (by assumption)))
            · intro wq hq
              have hcq := hq.cells
              have gx := (hq.cell (p := ad.add k) (by rw [add_block]; exact hblk)).trans cx
              have gxb := Nat.lt_of_lt_of_le hblk hq.size
              have gy := (hq.cell (p := ad.add j) (by rw [add_block]; exact hblk)).trans cy
              clear hq
              go_simp
              first | rfl | (trace_state; fail)
            try simp only [Act.put, List.setIfInBounds_toArray, List.set_cons_zero, List.set_cons_succ]
            apply sch_want rfl (by first | rfl | decide | (simp [Region.wanted, yielded]; done) | (simp [Region.wanted, yielded]; assumption)) (by repeat (first | with_reducible exact Within.refl _ | with_reducible assumption | with_reducible refine Within.alloc ?_ _ | with_reducible refine Within.drew ?_ | with_reducible refine Within.drewN ?_ _ | with_reducible refine Within.setCell ?_ (by first | (simp; done) | (simp; omega)) _ | with_reducible refine Within.trans ?_ (by assumption)))
            · intro wq hq
              have hcq := hq.cells
              have gx := (hq.cell (p := ad.add k) (by rw [add_block]; exact hblk)).trans cx
              have gxb := Nat.lt_of_lt_of_le hblk hq.size
              have gy := (hq.cell (p := ad.add j) (by rw [add_block]; exact hblk)).trans cy
              clear hq
              go_simp
              first | rfl | (trace_state; fail)
            try simp only [Act.put, List.setIfInBounds_toArray, List.set_cons_zero, List.set_cons_succ]
            apply sch_want rfl (by first | rfl | decide | (simp [Region.wanted, yielded]; done) | (simp [Region.wanted, yielded]; assumption)) (by repeat (first | with_reducible exact Within.refl _ | with_reducible assumption | with_reducible refine Within.alloc ?_ _ | with_reducible refine Within.drew ?_ | with_reducible refine Within.drewN ?_ _ | with_reducible refine Within.setCell ?_ (by first | (simp; done) | (simp; omega)) _ | with_reducible refine Within.trans ?_ (by assumption)))
            · intro wq hq
              have hcq := hq.cells
              have gx := (hq.cell (p := ad.add k) (by rw [add_block]; exact hblk)).trans cx
              have gxb := Nat.lt_of_lt_of_le hblk hq.size
              have gy := (hq.cell (p := ad.add j) (by rw [add_block]; exact hblk)).trans cy
              clear hq
              go_simp
              first | rfl | (trace_state; fail)
            try simp only [Act.put, List.setIfInBounds_toArray, List.set_cons_zero, List.set_cons_succ]
            apply sch_want rfl (by first | rfl | decide | (simp [Region.wanted, yielded]; done) | (simp [Region.wanted, yielded]; assumption)) (by repeat (first | with_reducible exact Within.refl _ | with_reducible assumption | with_reducible refine Within.alloc ?_ _ | with_reducible refine Within.drew ?_ | with_reducible refine Within.drewN ?_ _ | with_reducible refine Within.setCell ?_ (by first | (simp; done) | (simp; omega)) _ | with_reducible refine Within.trans ?_ (by assumption)))
            · intro wq hq
              have hcq := hq.cells
              have gx := (hq.cell (p := ad.add k) (by rw [add_block]; exact hblk)).trans cx
              have gxb := Nat.lt_of_lt_of_le hblk hq.size
              have gy := (hq.cell (p := ad.add j) (by rw [add_block]; exact hblk)).trans cy
              clear hq
              go_simp
              first | rfl | (trace_state; fail)
            try simp only [Act.put, List.setIfInBounds_toArray, List.set_cons_zero, List.set_cons_succ]
            apply sch_want rfl (by first | rfl | decide | (simp [Region.wanted, yielded]; done) | (simp [Region.wanted, yielded]; assumption)) (by repeat (first | with_reducible exact Within.refl _ | with_reducible assumption | with_reducible refine Within.alloc ?_ _ | with_reducible refine Within.drew ?_ | with_reducible refine Within.drewN ?_ _ | with_reducible refine Within.setCell ?_ (by first | (simp; done) | (simp; omega)) _ | with_reducible refine Within.trans ?_ (by assumption)))
            · intro wq hq
              have hcq := hq.cells
              have gx := (hq.cell (p := ad.add k) (by rw [add_block]; exact hblk)).trans cx
              have gxb := Nat.lt_of_lt_of_le hblk hq.size
              have gy := (hq.cell (p := ad.add j) (by rw [add_block]; exact hblk)).trans cy
              clear hq
              go_simp
              first | rfl | (trace_state; fail)
            try simp only [Act.put, List.setIfInBounds_toArray, List.set_cons_zero, List.set_cons_succ]
            apply sch_want rfl (by first | rfl | decide | (simp [Region.wanted, yielded]; done) | (simp [Region.wanted, yielded]; assumption)) (by repeat (first | with_reducible exact Within.refl _ | with_reducible assumption | with_reducible refine Within.alloc ?_ _ | with_reducible refine Within.drew ?_ | with_reducible refine Within.drewN ?_ _ | with_reducible refine Within.setCell ?_ (by first | (simp; done) | (simp; omega)) _ | with_reducible refine Within.trans ?_ (by assumption)))
            · intro wq hq
              have hcq := hq.cells
              have gx := (hq.cell (p := ad.add k) (by rw [add_block]; exact hblk)).trans cx
              have gxb := Nat.lt_of_lt_of_le hblk hq.size
              have gy := (hq.cell (p := ad.add j) (by rw [add_block]; exact hblk)).trans cy
              clear hq
              go_simp
              first | rfl | (trace_state; fail)
            try simp only [Act.put, List.setIfInBounds_toArray, List.set_cons_zero, List.set_cons_succ]
            apply sch_want rfl (by first | rfl | decide | (simp [Region.wanted, yielded]; done) | (simp [Region.wanted, yielded]; assumption)) (by repeat (first | with_reducible exact Within.refl _ | with_reducible assumption | with_reducible refine Within.alloc ?_ _ | with_reducible refine Within.drew ?_ | with_reducible refine Within.drewN ?_ _ | with_reducible refine Within.setCell ?_ (by first | (simp; done) | (simp; omega)) _ | with_reducible refine Within.trans ?_ (by assumption)))
            · intro wq hq
              have hcq := hq.cells
              have gx := (hq.cell (p := ad.add k) (by rw [add_block]; exact hblk)).trans cx
              have gxb := Nat.lt_of_lt_of_le hblk hq.size
              have gy := (hq.cell (p := ad.add j) (by rw [add_block]; exact hblk)).trans cy
              clear hq
              go_simp
              first | rfl | (trace_state; fail)
            try simp only [Act.put, List.setIfInBounds_toArray, List.set_cons_zero, List.set_cons_succ]
            apply sch_want rfl (by first | rfl | decide | (simp [Region.wanted, yielded]; done) | (simp [Region.wanted, yielded]; assumption)) (by repeat (first | with_reducible exact Within.refl _ | with_reducible assumption | with_reducible refine Within.alloc ?_ _ | with_reducible refine Within.drew ?_ | with_reducible refine Within.drewN ?_ _ | with_reducible refine Within.setCell ?_ (by first | (simp; done) | (simp; omega)) _ | with_reducible refine Within.trans ?_ (by assumption)))
            · intro wq hq
              have hcq := hq.cells
              have gx := (hq.cell (p := ad.add k) (by rw [add_block]; exact hblk)).trans cx
              have gxb := Nat.lt_of_lt_of_le hblk hq.size
              have gy := (hq.cell (p := ad.add j) (by rw [add_block]; exact hblk)).trans cy
              clear hq
              go_simp
              first | rfl | (trace_state; fail)
            try simp only [Act.put, List.setIfInBounds_toArray, List.set_cons_zero, List.set_cons_succ]
            apply sch_want rfl (by first | rfl | decide | (simp [Region.wanted, yielded]; done) | (simp [Region.wanted, yielded]; assumption)) (by repeat (first | with_reducible exact Within.refl _ | with_reducible assumption | with_reducible refine Within.alloc ?_ _ | with_reducible refine Within.drew ?_ | with_reducible refine Within.drewN ?_ _ | with_reducible refine Within.setCell ?_ (by first | (simp; done) | (simp; omega)) _ | with_reducible refine Within.trans ?_ (by assumption)))
            · intro wq hq
              have hcq := hq.cells
              have gx := (hq.cell (p := ad.add k) (by rw [add_block]; exact hblk)).trans cx
              have gxb := Nat.lt_of_lt_of_le hblk hq.size
              have gy := (hq.cell (p := ad.add j) (by rw [add_block]; exact hblk)).trans cy
              clear hq
              go_simp
              first | rfl | (trace_state; fail)
            try simp only [Act.put, List.setIfInBounds_toArray, List.set_cons_zero, List.set_cons_succ]
            apply sch_want rfl (by first | rfl | decide | (simp [Region.wanted, yielded]; done) | (simp [Region.wanted, yielded]; assumption)) (by repeat (first | with_reducible exact Within.refl _ | with_reducible assumption | with_reducible refine Within.alloc ?_ _ | with_reducible refine Within.drew ?_ | with_reducible refine Within.drewN ?_ _ | with_reducible refine Within.setCell ?_ (by first | (simp; done) | (simp; omega)) _ | with_reducible refine Within.trans ?_ (by assumption)))
            · intro wq hq
              have hcq := hq.cells
              have gx := (hq.cell (p := ad.add k) (by rw [add_block]; exact hblk)).trans cx
              have gxb := Nat.lt_of_lt_of_le hblk hq.size
              have gy := (hq.cell (p := ad.add j) (by rw [add_block]; exact hblk)).trans cy
              clear hq
              go_simp
              first | rfl | (trace_state; fail)
            try simp only [Act.put, List.setIfInBounds_toArray, List.set_cons_zero, List.set_cons_succ]
            apply sch_want rfl (by first | rfl | decide | (simp [Region.wanted, yielded]; done) | (simp [Region.wanted, yielded]; assumption)) (by repeat (first | with_reducible exact Within.refl _ | with_reducible assumption | with_reducible refine Within.alloc ?_ _ | with_reducible refine Within.drew ?_ | with_reducible refine Within.drewN ?_ _ | with_reducible refine Within.setCell ?_ (by first | (simp; done) | (simp; omega)) _ | with_reducible refine Within.trans ?_ (by assumption)))
            · intro wq hq
              have hcq := hq.cells
              have gx := (hq.cell (p := ad.add k) (by rw [add_block]; exact hblk)).trans cx
              have gxb := Nat.lt_of_lt_of_le hblk hq.size
              have gy := (hq.cell (p := ad.add j) (by rw [add_block]; exact hblk)).trans cy
              clear hq
              go_simp
              first | rfl | (trace_state; fail)
            try simp only [Act.put, List.setIfInBounds_toArray, List.set_cons_zero, List.set_cons_succ]
            refine sch_one_want rfl (by first | rfl | decide | (simp [Region.wanted, yielded]; done) | (simp [Region.wanted, yielded]; assumption)) (fun K hK => ?_)
            go_simp
            refine (CA.out _).mono ?_; rintro e5 w5 ⟨rfl, rfl⟩
            refine hK _ _ (fun _ => (by repeat (first | with_reducible exact Within.refl _ | with_reducible assumption | with_reducible refine Within.alloc ?_ _ | with_reducible refine Within.drew ?_ | with_reducible refine Within.drewN ?_ _ | with_reducible refine Within.setCell ?_ (by first | (simp; done) | (simp; omega)) _ | with_reducible refine Within.trans ?_ (by assumption)))) ?_
            clear hK K
            try simp only [Act.put, List.setIfInBounds_toArray, List.set_cons_zero, List.set_cons_succ]
            refine sch_one_want rfl (by first | rfl | decide | (simp [Region.wanted, yielded]; done) | (simp [Region.wanted, yielded]; assumption)) (fun K hK => ?_)
            go_simp
            refine (CL.out _ (hTw.of (by repeat (first | with_reducible exact Within.refl _ | with_reducible assumption | with_reducible refine Within.drew ?_ | with_reducible refine Within.trans ?_ (by assumption))))).mono ?_; rintro e6 w6 ⟨rfl, hb6⟩
            refine hK _ _ (fun _ => (by repeat (first | with_reducible exact Within.refl _ | with_reducible assumption | with_reducible refine Within.alloc ?_ _ | with_reducible refine Within.drew ?_ | with_reducible refine Within.drewN ?_ _ | with_reducible refine Within.setCell ?_ (by first | (simp; done) | (simp; omega)) _ | with_reducible refine Within.trans ?_ (by assumption)))) ?_
            clear hK K
            try simp only [Act.put, List.setIfInBounds_toArray, List.set_cons_zero, List.set_cons_succ]
            apply sch_want rfl (by first | rfl | decide | (simp [Region.wanted, yielded]; done) | (simp [Region.wanted, yielded]; assumption)) (by repeat (first | with_reducible exact Within.refl _ | with_reducible assumption | with_reducible refine Within.alloc ?_ _ | with_reducible refine Within.drew ?_ | with_reducible refine Within.drewN ?_ _ | with_reducible refine Within.setCell ?_ (by first | (simp; done) | (simp; omega)) _ | with_reducible refine Within.trans ?_ (by assumption)))
            · intro wq hq
              have hcq := hq.cells
              have gx := (hq.cell (p := ad.add k) (by rw [add_block]; exact hblk)).trans cx
              have gxb := Nat.lt_of_lt_of_le hblk hq.size
              have gy := (hq.cell (p := ad.add j) (by rw [add_block]; exact hblk)).trans cy
              clear hq
              go_simp
              first | rfl | (trace_state; fail)
            try simp only [Act.put, List.setIfInBounds_toArray, List.set_cons_zero, List.set_cons_succ]
            apply sch_want rfl (by first | rfl | decide | (simp [Region.wanted, yielded]; done) | (simp [Region.wanted, yielded]; assumption)) (by repeat (first | with_reducible exact Within.refl _ | with_reducible assumption | with_reducible refine Within.alloc ?_ _ | with_reducible refine Within.drew ?_ | with_reducible refine Within.drewN ?_ _ | with_reducible refine Within.setCell ?_ (by first | (simp; done) | (simp; omega)) _ | with_reducible refine Within.trans ?_ (by assumption)))
            · intro wq hq
              have hcq := hq.cells
              have gx := (hq.cell (p := ad.add k) (by rw [add_block]; exact hblk)).trans cx
              have gxb := Nat.lt_of_lt_of_le hblk hq.size
              have gy := (hq.cell (p := ad.add j) (by rw [add_block]; exact hblk)).trans cy
              clear hq
              go_simp
              first | rfl | (trace_state; fail)
            try simp only [Act.put, List.setIfInBounds_toArray, List.set_cons_zero, List.set_cons_succ]
            refine sch_one rfl rfl (fun K hK => ?_)
            go_simp
            refine hK _ _ (fun h => absurd h (by decide)) ?_
            clear hK K
            try simp only [Act.put, List.setIfInBounds_toArray, List.set_cons_zero, List.set_cons_succ]
            refine sch_nil ?_
            go_wp2
            go_ret
            exact ⟨(by rw [NO.out]; first | done | rfl), hw0.drew.trans hb6⟩
          · rw [hlb] at hge
            have OKN := Lib.hid (show ∀ i, i < j + 1 + 1 → okAt es i = true by
              intro i hi
              rcases Nat.lt_or_ge i (j + 1) with h | h
              · exact HOK.out i h
              · have : i = j + 1 := by omega
                subst this
                unfold okAt
                rw [← hx, Nat.add_sub_cancel, ← hy, hlb, decide_eq_true (by omega)]; simp)
            clear hlb hx hy h0
            rw [← hke] at hlt cx e8 e9 OKN ⊢
            have hjl : j < es.length := by omega
            have hk0 : 0 < k := by omega
            have HKE := Lib.hid hke; clear hke e8'
            go_wp2
            refine wp_region_schG (fun W => W.cell? (ad.add k) = some (.float .f64 x) ∧ W.cell? (ad.add j) = some (.float .f64 y) ∧ ad.block < W.heap.size ∧ Tab W ∧ Within w W) 22 (.firm 0 (.firm 1 (.firm 2 (.firm 3 (.firm 4 (.firm 5 (.firm 6 (.firm 7 (.firm 8 (.firm 9 (.firm 10 (.firm 11 (.firm 12 (.firm 13 (.firm 15 (.firm 16 (.firm 17 (.firm 18 (.one 14 (.one 19 (.firm 20 (.firm 21 (.one 22 .nil))))))))))))))))))))))) (by kernel_rfl) (by kernel_rfl) ⟨cx, cy, hblk, hTr, HIN.out⟩ ?_
            rintro w0 ⟨cx, cy, hblk, hTw, hw0⟩
            try simp only [Act.put, List.setIfInBounds_toArray, List.set_cons_zero, List.set_cons_succ]
            apply sch_firm rfl rfl (by repeat (first | with_reducible exact Within.refl _ | with_reducible assumption | with_reducible refine Within.alloc ?_ _ | with_reducible refine Within.drew ?_ | with_reducible refine Within.drewN ?_ _ | with_reducible refine Within.setCell ?_ (by first | (simp; done) | (simp; omega)) _ | with_reducible refine Within.trans ?_ (by assumption)))
            · intro wq hq
              have hcq := hq.cells
              have gx := (hq.cell (p := ad.add k) (by rw [add_block]; exact hblk)).trans cx
              have gxb := Nat.lt_of_lt_of_le hblk hq.size
              have gy := (hq.cell (p := ad.add j) (by rw [add_block]; exact hblk)).trans cy
              clear hq
              go_simp
              first | rfl | (trace_state; fail)
            try simp only [Act.put, List.setIfInBounds_toArray, List.set_cons_zero, List.set_cons_succ]
            apply sch_firm rfl rfl (by repeat (first | with_reducible exact Within.refl _ | with_reducible assumption | with_reducible refine Within.alloc ?_ _ | with_reducible refine Within.drew ?_ | with_reducible refine Within.drewN ?_ _ | with_reducible refine Within.setCell ?_ (by first | (simp; done) | (simp; omega)) _ | with_reducible refine Within.trans ?_ (by assumption)))
            · intro wq hq
              have hcq := hq.cells
              have gx := (hq.cell (p := ad.add k) (by rw [add_block]; exact hblk)).trans cx
              have gxb := Nat.lt_of_lt_of_le hblk hq.size
              have gy := (hq.cell (p := ad.add j) (by rw [add_block]; exact hblk)).trans cy
              clear hq
              go_simp
              first | rfl | (trace_state; fail)
            try simp only [Act.put, List.setIfInBounds_toArray, List.set_cons_zero, List.set_cons_succ]
            apply sch_firm rfl rfl (by repeat (first | with_reducible exact Within.refl _ | with_reducible assumption | with_reducible refine Within.alloc ?_ _ | with_reducible refine Within.drew ?_ | with_reducible refine Within.drewN ?_ _ | with_reducible refine Within.setCell ?_ (by first | (simp; done) | (simp; omega)) _ | with_reducible refine Within.trans ?_ (by assumption)))
            · intro wq hq
              have hcq := hq.cells
              have gx := (hq.cell (p := ad.add k) (by rw [add_block]; exact hblk)).trans cx
              have gxb := Nat.lt_of_lt_of_le hblk hq.size
              have gy := (hq.cell (p := ad.add j) (by rw [add_block]; exact hblk)).trans cy
              clear hq
              go_simp
              first | rfl | (trace_state; fail)
            try simp only [Act.put, List.setIfInBounds_toArray, List.set_cons_zero, List.set_cons_succ]
            apply sch_firm rfl rfl (by repeat (first | with_reducible exact Within.refl _ | with_reducible assumption | with_reducible refine Within.alloc ?_ _ | with_reducible refine Within.drew ?_ | with_reducible refine Within.drewN ?_ _ | with_reducible refine Within.setCell ?_ (by first | (simp; done) | (simp; omega)) _ | with_reducible refine Within.trans ?_ (by assumption)))
            · intro wq hq
              have hcq := hq.cells
              have gx := (hq.cell (p := ad.add k) (by rw [add_block]; exact hblk)).trans cx
              have gxb := Nat.lt_of_lt_of_le hblk hq.size
              have gy := (hq.cell (p := ad.add j) (by rw [add_block]; exact hblk)).trans cy
              clear hq
              go_simp
              first | rfl | (trace_state; fail)
            try simp only [Act.put, List.setIfInBounds_toArray, List.set_cons_zero, List.set_cons_succ]
            apply sch_firm rfl rfl (by repeat (first | with_reducible exact Within.refl _ | with_reducible assumption | with_reducible refine Within.alloc ?_ _ | with_reducible refine Within.drew ?_ | with_reducible refine Within.drewN ?_ _ | with_reducible refine Within.setCell ?_ (by first | (simp; done) | (simp; omega)) _ | with_reducible refine Within.trans ?_ (by assumption)))
            · intro wq hq
              have hcq := hq.cells
              have gx := (hq.cell (p := ad.add k) (by rw [add_block]; exact hblk)).trans cx
              have gxb := Nat.lt_of_lt_of_le hblk hq.size
              have gy := (hq.cell (p := ad.add j) (by rw [add_block]; exact hblk)).trans cy
              clear hq
              go_simp
              first | rfl | (trace_state; fail)
            try simp only [Act.put, List.setIfInBounds_toArray, List.set_cons_zero, List.set_cons_succ]
            apply sch_firm rfl rfl (by repeat (first | with_reducible exact Within.refl _ | with_reducible assumption | with_reducible refine Within.alloc ?_ _ | with_reducible refine Within.drew ?_ | with_reducible refine Within.drewN ?_ _ | with_reducible refine Within.setCell ?_ (by first | (simp; done) | (simp; omega)) _ | with_reducible refine Within.trans ?_ (by assumption)))
            · intro wq hq
              have hcq := hq.cells
              have gx := (hq.cell (p := ad.add k) (by rw [add_block]; exact hblk)).trans cx
              have gxb := Nat.lt_of_lt_of_le hblk hq.size
              have gy := (hq.cell (p := ad.add j) (by rw [add_block]; exact hblk)).trans cy
              clear hq
              go_simp
              first | rfl | (trace_state; fail)
            try simp only [Act.put, List.setIfInBounds_toArray, List.set_cons_zero, List.set_cons_succ]
            apply sch_want rfl (by first | rfl | decide | (simp [Region.wanted, yielded]; done) | (simp [Region.wanted, yielded]; assumption)) (by repeat (first | with_reducible exact Within.refl _ | with_reducible assumption | with_reducible refine Within.alloc ?_ _ | with_reducible refine Within.drew ?_ | with_reducible refine Within.drewN ?_ _ | with_reducible refine Within.setCell ?_ (by first | (simp; done) | (simp; omega)) _ | with_reducible refine Within.trans ?_ (by assumption)))
            · intro wq hq
              have hcq := hq.cells
              have gx := (hq.cell (p := ad.add k) (by rw [add_block]; exact hblk)).trans cx
              have gxb := Nat.lt_of_lt_of_le hblk hq.size
              have gy := (hq.cell (p := ad.add j) (by rw [add_block]; exact hblk)).trans cy
              clear hq
              go_simp
              first | rfl | (trace_state; fail)
            try simp only [Act.put, List.setIfInBounds_toArray, List.set_cons_zero, List.set_cons_succ]
            apply sch_want rfl (by first | rfl | decide | (simp [Region.wanted, yielded]; done) | (simp [Region.wanted, yielded]; assumption)) (by repeat (first | with_reducible exact Within.refl _ | with_reducible assumption | with_reducible refine Within.alloc ?_ _ | with_reducible refine Within.drew ?_ | with_reducible refine Within.drewN ?_ _ | with_reducible refine Within.setCell ?_ (by first | (simp; done) | (simp; omega)) _ | with_reducible refine Within.trans ?_ (by assumption)))
            · intro wq hq
              have hcq := hq.cells
              have gx := (hq.cell (p := ad.add k) (by rw [add_block]; exact hblk)).trans cx
              have gxb := Nat.lt_of_lt_of_le hblk hq.size
              have gy := (hq.cell (p := ad.add j) (by rw [add_block]; exact hblk)).trans cy
              clear hq
              go_simp
              first | rfl | (trace_state; fail)
            try simp only [Act.put, List.setIfInBounds_toArray, List.set_cons_zero, List.set_cons_succ]
            apply sch_want rfl (by first | rfl | decide | (simp [Region.wanted, yielded]; done) | (simp [Region.wanted, yielded]; assumption)) (by repeat (first | with_reducible exact Within.refl _ | with_reducible assumption | with_reducible refine Within.alloc ?_ _ | with_reducible refine Within.drew ?_ | with_reducible refine Within.drewN ?_ _ | with_reducible refine Within.setCell ?_ (by first | (simp; done) | (simp; omega)) _ | with_reducible refine Within.trans ?_ (by assumption)))
            · intro wq hq
              have hcq := hq.cells
              have gx := (hq.cell (p := ad.add k) (by rw [add_block]; exact hblk)).trans cx
              have gxb := Nat.lt_of_lt_of_le hblk hq.size
              have gy := (hq.cell (p := ad.add j) (by rw [add_block]; exact hblk)).trans cy
              clear hq
              go_simp
              first | rfl | (trace_state; fail)
            try simp only [Act.put, List.setIfInBounds_toArray, List.set_cons_zero, List.set_cons_succ]
            apply sch_want rfl (by first | rfl | decide | (simp [Region.wanted, yielded]; done) | (simp [Region.wanted, yielded]; assumption)) (by repeat (first | with_reducible exact Within.refl _ | with_reducible assumption | with_reducible refine Within.alloc ?_ _ | with_reducible refine Within.drew ?_ | with_reducible refine Within.drewN ?_ _ | with_reducible refine Within.setCell ?_ (by first | (simp; done) | (simp; omega)) _ | with_reducible refine Within.trans ?_ (by assumption)))
            · intro wq hq
              have hcq := hq.cells
              have gx := (hq.cell (p := ad.add k) (by rw [add_block]; exact hblk)).trans cx
              have gxb := Nat.lt_of_lt_of_le hblk hq.size
              have gy := (hq.cell (p := ad.add j) (by rw [add_block]; exact hblk)).trans cy
              clear hq
              go_simp
              first | rfl | (trace_state; fail)
            try simp only [Act.put, List.setIfInBounds_toArray, List.set_cons_zero, List.set_cons_succ]
            apply sch_want rfl (by first | rfl | decide | (simp [Region.wanted, yielded]; done) | (simp [Region.wanted, yielded]; assumption)) (by repeat (first | with_reducible exact Within.refl _ | with_reducible assumption | with_reducible refine Within.alloc ?_ _ | with_reducible refine Within.drew ?_ | with_reducible refine Within.drewN ?_ _ | with_reducible refine Within.setCell ?_ (by first | (simp; done) | (simp; omega)) _ | with_reducible refine Within.trans ?_ (by assumption)))
            · intro wq hq
              have hcq := hq.cells
              have gx := (hq.cell (p := ad.add k) (by rw [add_block]; exact hblk)).trans cx
              have gxb := Nat.lt_of_lt_of_le hblk hq.size
              have gy := (hq.cell (p := ad.add j) (by rw [add_block]; exact hblk)).trans cy
              clear hq
              go_simp
              first | rfl | (trace_state; fail)
            try simp only [Act.put, List.setIfInBounds_toArray, List.set_cons_zero, List.set_cons_succ]
            apply sch_want rfl (by first | rfl | decide | (simp [Region.wanted, yielded]; done) | (simp [Region.wanted, yielded]; assumption)) (by repeat (first | with_reducible exact Within.refl _ | with_reducible assumption | with_reducible refine Within.alloc ?_ _ | with_reducible refine Within.drew ?_ | with_reducible refine Within.drewN ?_ _ | with_reducible refine Within.setCell ?_ (by first | (simp; done) | (simp; omega)) _ | with_reducible refine Within.trans ?_ (by assumption)))
            · intro wq hq
              have hcq := hq.cells
              have gx := (hq.cell (p := ad.add k) (by rw [add_block]; exact hblk)).trans cx
              have gxb := Nat.lt_of_lt_of_le hblk hq.size
              have gy := (hq.cell (p := ad.add j) (by rw [add_block]; exact hblk)).trans cy
              clear hq
              go_simp
              first | rfl | (trace_state; fail)
            try simp only [Act.put, List.setIfInBounds_toArray, List.set_cons_zero, List.set_cons_succ]
            apply sch_want rfl (by first | rfl | decide | (simp [Region.wanted, yielded]; done) | (simp [Region.wanted, yielded]; assumption)) (by repeat (first | with_reducible exact Within.refl _ | with_reducible assumption | with_reducible refine Within.alloc ?_ _ | with_reducible refine Within.drew ?_ | with_reducible refine Within.drewN ?_ _ | with_reducible refine Within.setCell ?_ (by first | (simp; done) | (simp; omega)) _ | with_reducible refine Within.trans ?_ (by assumption)))
            · intro wq hq
              have hcq := hq.cells
              have gx := (hq.cell (p := ad.add k) (by rw [add_block]; exact hblk)).trans cx
              have gxb := Nat.lt_of_lt_of_le hblk hq.size
              have gy := (hq.cell (p := ad.add j) (by rw [add_block]; exact hblk)).trans cy
              clear hq
              go_simp
              first | rfl | (trace_state; fail)
            try simp only [Act.put, List.setIfInBounds_toArray, List.set_cons_zero, List.set_cons_succ]
            apply sch_want rfl (by first | rfl | decide | (simp [Region.wanted, yielded]; done) | (simp [Region.wanted, yielded]; assumption)) (by repeat (first | with_reducible exact Within.refl _ | with_reducible assumption | with_reducible refine Within.alloc ?_ _ | with_reducible refine Within.drew ?_ | with_reducible refine Within.drewN ?_ _ | with_reducible refine Within.setCell ?_ (by first | (simp; done) | (simp; omega)) _ | with_reducible refine Within.trans ?_ (by assumption)))
            · intro wq hq
              have hcq := hq.cells
              have gx := (hq.cell (p := ad.add k) (by rw [add_block]; exact hblk)).trans cx
              have gxb := Nat.lt_of_lt_of_le hblk hq.size
              have gy := (hq.cell (p := ad.add j) (by rw [add_block]; exact hblk)).trans cy
              clear hq
              go_simp
              first | rfl | (trace_state; fail)
            try simp only [Act.put, List.setIfInBounds_toArray, List.set_cons_zero, List.set_cons_succ]
            apply sch_want rfl (by first | rfl | decide | (simp [Region.wanted, yielded]; done) | (simp [Region.wanted, yielded]; assumption)) (by repeat (first | with_reducible exact Within.refl _ | with_reducible assumption | with_reducible refine Within.alloc ?_ _ | with_reducible refine Within.drew ?_ | with_reducible refine Within.drewN ?_ _ | with_reducible refine Within.setCell ?_ (by first | (simp; done) | (simp; omega)) _ | with_reducible refine Within.trans ?_ (by assumption)))
            · intro wq hq
              have hcq := hq.cells
              have gx := (hq.cell (p := ad.add k) (by rw [add_block]; exact hblk)).trans cx
              have gxb := Nat.lt_of_lt_of_le hblk hq.size
              have gy := (hq.cell (p := ad.add j) (by rw [add_block]; exact hblk)).trans cy
              clear hq
              go_simp
              first | rfl | (trace_state; fail)
            try simp only [Act.put, List.setIfInBounds_toArray, List.set_cons_zero, List.set_cons_succ]
            apply sch_want rfl (by first | rfl | decide | (simp [Region.wanted, yielded]; done) | (simp [Region.wanted, yielded]; assumption)) (by repeat (first | with_reducible exact Within.refl _ | with_reducible assumption | with_reducible refine Within.alloc ?_ _ | with_reducible refine Within.drew ?_ | with_reducible refine Within.drewN ?_ _ | with_reducible refine Within.setCell ?_ (by first | (simp; done) | (simp; omega)) _ | with_reducible refine Within.trans ?_ (by assumption)))
            · intro wq hq
              have hcq := hq.cells
              have gx := (hq.cell (p := ad.add k) (by rw [add_block]; exact hblk)).trans cx
              have gxb := Nat.lt_of_lt_of_le hblk hq.size
              have gy := (hq.cell (p := ad.add j) (by rw [add_block]; exact hblk)).trans cy
              clear hq
              go_simp
              first | rfl | (trace_state; fail)
            try simp only [Act.put, List.setIfInBounds_toArray, List.set_cons_zero, List.set_cons_succ]
            apply sch_want rfl (by first | rfl | decide | (simp [Region.wanted, yielded]; done) | (simp [Region.wanted, yielded]; assumption)) (by repeat (first | with_reducible exact Within.refl _ | with_reducible assumption | with_reducible refine Within.alloc ?_ _ | with_reducible refine Within.drew ?_ | with_reducible refine Within.drewN ?_ _ | with_reducible refine Within.setCell ?_ (by first | (simp; done) | (simp; omega)) _ | with_reducible refine Within.trans ?_ (by assumption)))
            · intro wq hq
              have hcq := hq.cells
              have gx := (hq.cell (p := ad.add k) (by rw [add_block]; exact hblk)).trans cx
              have gxb := Nat.lt_of_lt_of_le hblk hq.size
              have gy := (hq.cell (p := ad.add j) (by rw [add_block]; exact hblk)).trans cy
              clear hq
              go_simp
              first | rfl | (trace_state; fail)
            try simp only [Act.put, List.setIfInBounds_toArray, List.set_cons_zero, List.set_cons_succ]
            apply sch_want rfl (by first | rfl | decide | (simp [Region.wanted, yielded]; done) | (simp [Region.wanted, yielded]; assumption)) (by repeat (first | with_reducible exact Within.refl _ | with_reducible assumption | with_reducible refine Within.alloc ?_ _ | with_reducible refine Within.drew ?_ | with_reducible refine Within.drewN ?_ _ | with_reducible refine Within.setCell ?_ (by first | (simp; done) | (simp; omega)) _ | with_reducible refine Within.trans ?_ (by assumption)))
            · intro wq hq
              have hcq := hq.cells
              have gx := (hq.cell (p := ad.add k) (by rw [add_block]; exact hblk)).trans cx
              have gxb := Nat.lt_of_lt_of_le hblk hq.size
              have gy := (hq.cell (p := ad.add j) (by rw [add_block]; exact hblk)).trans cy
              clear hq
              go_simp
              first | rfl | (trace_state; fail)
            try simp only [Act.put, List.setIfInBounds_toArray, List.set_cons_zero, List.set_cons_succ]
            refine sch_one_want rfl (by first | rfl | decide | (simp [Region.wanted, yielded]; done) | (simp [Region.wanted, yielded]; assumption)) (fun K hK => ?_)
            go_simp
            refine (CA.out _).mono ?_; rintro e5 w5 ⟨rfl, rfl⟩
            refine hK _ _ (fun _ => (by repeat (first | with_reducible exact Within.refl _ | with_reducible assumption | with_reducible refine Within.alloc ?_ _ | with_reducible refine Within.drew ?_ | with_reducible refine Within.drewN ?_ _ | with_reducible refine Within.setCell ?_ (by first | (simp; done) | (simp; omega)) _ | with_reducible refine Within.trans ?_ (by assumption)))) ?_
            clear hK K
            try simp only [Act.put, List.setIfInBounds_toArray, List.set_cons_zero, List.set_cons_succ]
            refine sch_one_want rfl (by first | rfl | decide | (simp [Region.wanted, yielded]; done) | (simp [Region.wanted, yielded]; assumption)) (fun K hK => ?_)
            go_simp
            refine (CL.out _ (hTw.of (by repeat (first | with_reducible exact Within.refl _ | with_reducible assumption | with_reducible refine Within.drew ?_ | with_reducible refine Within.trans ?_ (by assumption))))).mono ?_; rintro e6 w6 ⟨rfl, hb6⟩
            refine hK _ _ (fun _ => (by repeat (first | with_reducible exact Within.refl _ | with_reducible assumption | with_reducible refine Within.alloc ?_ _ | with_reducible refine Within.drew ?_ | with_reducible refine Within.drewN ?_ _ | with_reducible refine Within.setCell ?_ (by first | (simp; done) | (simp; omega)) _ | with_reducible refine Within.trans ?_ (by assumption)))) ?_
            clear hK K
            try simp only [Act.put, List.setIfInBounds_toArray, List.set_cons_zero, List.set_cons_succ]
            apply sch_want rfl (by first | rfl | decide | (simp [Region.wanted, yielded]; done) | (simp [Region.wanted, yielded]; assumption)) (by repeat (first | with_reducible exact Within.refl _ | with_reducible assumption | with_reducible refine Within.alloc ?_ _ | with_reducible refine Within.drew ?_ | with_reducible refine Within.drewN ?_ _ | with_reducible refine Within.setCell ?_ (by first | (simp; done) | (simp; omega)) _ | with_reducible refine Within.trans ?_ (by assumption)))
            · intro wq hq
              have hcq := hq.cells
              have gx := (hq.cell (p := ad.add k) (by rw [add_block]; exact hblk)).trans cx
              have gxb := Nat.lt_of_lt_of_le hblk hq.size
              have gy := (hq.cell (p := ad.add j) (by rw [add_block]; exact hblk)).trans cy
              clear hq
              go_simp
              first | rfl | (trace_state; fail)
            try simp only [Act.put, List.setIfInBounds_toArray, List.set_cons_zero, List.set_cons_succ]
            apply sch_want rfl (by first | rfl | decide | (simp [Region.wanted, yielded]; done) | (simp [Region.wanted, yielded]; assumption)) (by repeat (first | with_reducible exact Within.refl _ | with_reducible assumption | with_reducible refine Within.alloc ?_ _ | with_reducible refine Within.drew ?_ | with_reducible refine Within.drewN ?_ _ | with_reducible refine Within.setCell ?_ (by first | (simp; done) | (simp; omega)) _ | with_reducible refine Within.trans ?_ (by assumption)))
            · intro wq hq
              have hcq := hq.cells
              have gx := (hq.cell (p := ad.add k) (by rw [add_block]; exact hblk)).trans cx
              have gxb := Nat.lt_of_lt_of_le hblk hq.size
              have gy := (hq.cell (p := ad.add j) (by rw [add_block]; exact hblk)).trans cy
              clear hq
              go_simp
              first | rfl | (trace_state; fail)
            try simp only [Act.put, List.setIfInBounds_toArray, List.set_cons_zero, List.set_cons_succ]
            refine sch_one rfl rfl (fun K hK => ?_)
            go_simp
            refine hK _ _ (fun h => absurd h (by decide)) ?_
            clear hK K
            try simp only [Act.put, List.setIfInBounds_toArray, List.set_cons_zero, List.set_cons_succ]
            refine sch_nil ?_
            have hw4 : Within w w6 := hw0.drew.trans hb6
            clear hw0
            go_wp2
            go_roundw
            case rel => exact ⟨k + 1, hlt, by go_num, OKN.out, hw4⟩
            case measure => simp [intOf]; omega
    · obtain rfl : k = es.length := by omega
      have YES := Lib.hid (isB_yes H64.out HF.out HOK.out)
      go_wp2
      go_ret
      exact ⟨(by rw [YES.out]; first | done | rfl), hin⟩
theorem eis_any (A : Option Addr) (c : Nat) (es : List Nat) (hw : Words64 es) (hl : es.length ≤ 1152921504606846976) (w : World) (hT : Tab w) (hr : SlAt w A (f64v es)) : Calls Tryz.prog 17 #[.slice A es.length c] w fun e w' => e = .returned (.bool (isB es)) ∧ Within w w' := by
  by_cases h64 : es.length ≤ 64
  · cases hf : es.all finD
    · rw [isB_fin hf]; exact eis_fin A c es hw hl h64 hf w hT hr
    · exact eis_main A c es hw hl h64 hf w hT hr
  · rw [isB_long (by omega)]; exact eis_long A c es hw hl (by omega) w hT hr
end Go.Proofs.YtjmaggfddinbkaaGreatDoor
end

section
namespace Go.Proofs.YtjmaggfddinbkaaGreatDoor
open Go.RowKit
def chkE (l : List Nat) : Int := if l.all finD = false then 4 else if 64 < l.length then 2 else if isB l = false then 40 else 0
theorem chkE_zero {l : List Nat} : chkE l = 0 ↔ isB l = true := by
  unfold chkE
  constructor
  · intro h
    split at h
    · cases h
    · split at h
      · cases h
      · split at h
        · cases h
        · rename_i h3; simpa using h3
  · intro h
    have h1 : l.all finD = true := by
      unfold isB at h; simp only [Bool.and_eq_true] at h; exact h.1.2
    have h2 : l.length ≤ 64 := by
      unfold isB at h; simp only [Bool.and_eq_true, decide_eq_true_eq] at h; exact h.1.1
    rw [h1, if_neg (by decide), if_neg (by omega), h, if_neg (by decide)]
theorem chk_len {l : List Nat} (h : chkE l = 0) : l.length ≤ 64 := by
  have := chkE_zero.1 h
  unfold isB at this; simp only [Bool.and_eq_true, decide_eq_true_eq] at this; exact this.1.1
def growL (es : List Nat) (b : Nat) : List (Option Nat) := if chkE es = 0 then (if finW b then (growSt (es.map fv) (fv b)).out else []) else []
def growEr (es : List Nat) (b : Nat) : Int := if chkE es = 0 then (if finW b then (growSt (es.map fv) (fv b)).err else 4) else chkE es
theorem ResF.none_ {W w : World} (er : Int) (h : Within W w) : ResF W [] er (.returned (.tuple #[.slice none 0 0, .int .i64 er])) w := ⟨_, [], rfl, OwnF.nil_ _ _, (fun x hx => by cases hx), rfl, h⟩
set_option maxRecDepth 100000 in
set_option maxHeartbeats 600000 in
theorem echeck_fin (A : Option Addr) (c : Nat) (es : List Nat) (hw : Words64 es) (hl : es.length ≤ 1152921504606846976) (hf : es.all finD = false) (w : World) (hT : Tab w) (hr : SlAt w A (f64v es)) : Calls Tryz.prog 65 #[.slice A es.length c] w fun e w' => e = .returned (.int .i64 (4)) ∧ Within w w' := by
  have CF := Lib.hid (Finite_any A c es hw (by omega) w hr)
  rw [hf] at CF
  clear hw hr hT hf
  go_enter Tryz.func65, Tryz.ntmps65
  go_wp2_with fail
  refine CF.out.mono ?_; rintro e1 w1 ⟨rfl, hb1⟩
  go_wp2
  go_ret
  exact ⟨rfl, hb1⟩
set_option maxRecDepth 100000 in
set_option maxHeartbeats 600000 in
theorem echeck_long (A : Option Addr) (c : Nat) (es : List Nat) (hw : Words64 es) (hl : es.length ≤ 1152921504606846976) (hf : es.all finD = true) (h64 : 64 < es.length) (w : World) (hT : Tab w) (hr : SlAt w A (f64v es)) : Calls Tryz.prog 65 #[.slice A es.length c] w fun e w' => e = .returned (.int .i64 (2)) ∧ Within w w' := by
  have CF := Lib.hid (Finite_any A c es hw (by omega) w hr)
  rw [hf] at CF
  have d : decide ((es.length : Int) > 64) = true := decide_eq_true (by omega)
  clear hw hr hT hf
  go_enter Tryz.func65, Tryz.ntmps65
  go_wp2_with fail
  refine CF.out.mono ?_; rintro e1 w1 ⟨rfl, hb1⟩
  go_wp2
  go_ret
  exact ⟨rfl, hb1⟩
set_option maxRecDepth 100000 in
set_option maxHeartbeats 600000 in
theorem echeck_is (A : Option Addr) (c : Nat) (es : List Nat) (hw : Words64 es) (hl : es.length ≤ 1152921504606846976) (hf : es.all finD = true) (h64 : es.length ≤ 64) (v : Int) (b : Bool) (hb : isB es = b) (hv : (if b then 0 else 40) = v) (w : World) (hT : Tab w) (hr : SlAt w A (f64v es)) : Calls Tryz.prog 65 #[.slice A es.length c] w fun e w' => e = .returned (.int .i64 (v)) ∧ Within w w' := by
  have CF := Lib.hid (Finite_any A c es hw (by omega) w hr)
  rw [hf] at CF
  have d : decide ((es.length : Int) > 64) = false := decide_eq_false (by omega)
  have CI := Lib.hid (fun w hT hr => eis_any A c es hw (by omega) w hT hr)
  rw [hb] at CI
  have HT := Lib.hid hT; have HR := Lib.hid hr; clear hw hr hT hf hb
  cases b
  · obtain rfl : v = 40 := by simpa using hv.symm
    clear hv
    go_enter Tryz.func65, Tryz.ntmps65
    go_wp2_with fail
    refine CF.out.mono ?_; rintro e1 w1 ⟨rfl, hb1⟩
    go_wp2_with fail
    refine (CI.out _ (HT.out.of hb1) (HR.out.of hb1)).mono ?_; rintro e2 w2 ⟨rfl, hb2⟩
    go_wp2
    go_ret
    exact ⟨rfl, hb1.trans hb2⟩
  · obtain rfl : v = 0 := by simpa using hv.symm
    clear hv
    go_enter Tryz.func65, Tryz.ntmps65
    go_wp2_with fail
    refine CF.out.mono ?_; rintro e1 w1 ⟨rfl, hb1⟩
    go_wp2_with fail
    refine (CI.out _ (HT.out.of hb1) (HR.out.of hb1)).mono ?_; rintro e2 w2 ⟨rfl, hb2⟩
    go_wp2
    go_ret
    exact ⟨rfl, hb1.trans hb2⟩
theorem echeck_any (A : Option Addr) (c : Nat) (es : List Nat) (hw : Words64 es) (hl : es.length ≤ 1152921504606846976) (w : World) (hT : Tab w) (hr : SlAt w A (f64v es)) : Calls Tryz.prog 65 #[.slice A es.length c] w fun e w' => e = .returned (.int .i64 (chkE es)) ∧ Within w w' := by
  unfold chkE
  cases hf : es.all finD
  · rw [if_pos rfl]; exact echeck_fin A c es hw hl hf w hT hr
  · rw [if_neg (by decide)]
    by_cases h64 : 64 < es.length
    · rw [if_pos h64]; exact echeck_long A c es hw hl hf h64 w hT hr
    · rw [if_neg h64]
      refine echeck_is A c es hw hl hf (by omega) _ (isB es) rfl ?_ w hT hr
      cases isB es <;> rfl
set_option maxRecDepth 100000 in
set_option maxHeartbeats 600000 in
theorem eGrow_any (A : Option Addr) (c : Nat) (es : List Nat) (hw : Words64 es) (hl : es.length ≤ 1152921504606846976) (b : Nat) (hb : b < 18446744073709551616) (w : World) (hT : Tab w) (hr : SlAt w A (f64v es)) : Calls Tryz.prog 13 #[.slice A es.length c, .float .f64 b] w (ResF w (growL es b) (growEr es b)) := by
  have CK := Lib.hid (echeck_any A c es hw hl w hT hr)
  have HR := Lib.hid hr; clear hr hT
  unfold growL growEr
  by_cases h0 : chkE es = 0
  · rw [if_pos h0, if_pos h0]
    have CG := Lib.hid (fun w hr => egrow_any A c es b hw (Nat.le_trans (chk_len h0) (by decide)) hb w hr)
    rw [h0] at CK
    clear h0 hw hb
    have CN := Lib.hid (fun w => efinite_any b w)
    cases hf : finW b
    · rw [if_neg (by decide), if_neg (by decide)]
      rw [hf] at CN
      clear hf
      go_enter Tryz.func13, Tryz.ntmps13
      go_wp2_with fail
      refine CK.out.mono ?_; rintro e1 w1 ⟨rfl, hb1⟩
      go_wp2_with fail
      refine (CN.out _).mono ?_; rintro e2 w2 ⟨rfl, hb2⟩
      go_wp2
      go_ret2
      exact ResF.none_ 4 (hb1.trans hb2)
    · rw [if_pos rfl, if_pos rfl]
      rw [hf] at CN
      clear hf
      obtain ⟨go, hgo⟩ : ∃ go, go = (growSt (es.map fv) (fv b)).out := ⟨_, rfl⟩
      obtain ⟨ge, hge⟩ : ∃ ge, ge = (growSt (es.map fv) (fv b)).err := ⟨_, rfl⟩
      rw [← hgo, ← hge] at CG ⊢
      clear hgo hge
      go_enter Tryz.func13, Tryz.ntmps13
      go_wp2_with fail
      refine CK.out.mono ?_; rintro e1 w1 ⟨rfl, hb1⟩
      go_wp2_with fail
      refine (CN.out _).mono ?_; rintro e2 w2 ⟨rfl, hb2⟩
      go_wp2_with fail
      refine (CG.out _ (HR.out.of (hb1.trans hb2))).mono ?_; rintro e3 w3 ⟨sv, ls, rfl, ho, hws, hm, hb3⟩
      go_wp2
      go_ret2
      exact ⟨sv, ls, rfl, OwnF.less ho (hb1.trans hb2).size, hws, hm, (hb1.trans hb2).trans hb3⟩
  · clear hw hb
    rw [if_neg h0, if_neg h0]
    obtain ⟨v, hv⟩ : ∃ v, v = chkE es := ⟨_, rfl⟩
    rw [← hv] at CK h0 ⊢
    have hne : (v != 0) = true := by simpa using h0
    clear hv h0
    go_enter Tryz.func13, Tryz.ntmps13
    go_wp2_with fail
    refine CK.out.mono ?_; rintro e1 w1 ⟨rfl, hb1⟩
    go_wp2
    go_ret2
    exact ResF.none_ v hb1
end Go.Proofs.YtjmaggfddinbkaaGreatDoor
end

section
namespace Go.Proofs.YtjmaggfddinbkaaGreatDoor
open Go.RowKit
theorem fv_some {x v : Nat} (h : fv x = some v) : x = v := by
  unfold fv at h
  split at h
  · cases h
  · injection h
theorem map_fv_two {ls : List Nat} {a b : Nat} (h : ls.map fv = [some a, some b]) : ls = [a, b] := by
  rcases ls with _ | ⟨x, _ | ⟨y, _ | ⟨z, l⟩⟩⟩
  · simp at h
  · simp at h
  · simp only [List.map_cons, List.map_nil, List.cons.injEq, and_true] at h
    rw [fv_some h.1, fv_some h.2]
  · simp at h
set_option maxRecDepth 100000 in
set_option maxHeartbeats 600000 in
theorem ef_any (a : Nat) (w : World) : Calls Tryz.prog 14 #[.int .u64 a] w fun e w' => e = .returned (.float .f64 a) ∧ w = w' := by
  go_enter Tryz.func14, Tryz.ntmps14
  go_wp2
  go_ret
  exact ⟨rfl, rfl⟩
theorem t_twoS : twoS (fv 4845873199050653696) (fv 4607182418800017408) = some 4845873199050653696 := by decide +kernel
theorem t_twoL : twoL (fv 4845873199050653696) (fv 4607182418800017408) = some 4607182418800017408 := by decide +kernel
theorem t_halH : halH (fv 4728779608772575232) = some 4728779608739020800 := by decide +kernel
theorem t_halL : halL (fv 4728779608772575232) = some 4607182418800017408 := by decide +kernel
theorem t_proP : proP (fv 4728779608772575232) (fv 4728779608772575232) = some 4850376798745133056 := by decide +kernel
theorem t_proE : proE (fv 4728779608772575232) (fv 4728779608772575232) = some 4607182418800017408 := by decide +kernel
theorem t_growL : growL [4607182418800017408] 4877398396442247168 = [some 4607182418800017408, some 4877398396442247168] := by decide +kernel
theorem t_growE : growEr [4607182418800017408] 4877398396442247168 = 0 := by decide +kernel
theorem t_is : isB [4607182418800017408, 4877398396442247168] = true := by decide +kernel
theorem t_det : P64.detI 4607182418800017408 4611686018427387904 4613937818241073152 4616189618054758400 = -1 := by decide +kernel
theorem t_fin : [4607182418800017408, 4611686018427387904, 4613937818241073152, 4616189618054758400].all finD = true := by decide +kernel
set_option maxRecDepth 100000 in
set_option maxHeartbeats 1600000 in
theorem awake_true (w : World) (hT : Tab w) : Calls Tryz.prog 21 #[] w fun e w' => e = .returned (.bool true) ∧ Within w w' := by
  have C1 := Lib.hid (fun w => Etwo_any 4845873199050653696 4607182418800017408 (by decide) (by decide) w)
  have C2 := Lib.hid (fun w => Esplit_any 4728779608772575232 (by decide) w)
  have C3 := Lib.hid (fun w => Eprod_any 4728779608772575232 4728779608772575232 (by decide) (by decide) w)
  have C4 := Lib.hid (fun A w hT hr => eGrow_any A 1 [4607182418800017408] (by intro x hx; simp at hx; omega) (by decide) 4877398396442247168 (by decide) w hT hr)
  have C5 := Lib.hid (fun w hT => P64.Edet 4607182418800017408 4611686018427387904 4613937818241073152 4616189618054758400 (by decide) (by decide) (by decide) (by decide) w hT)
  have C6 := Lib.hid (fun A c w hT hr => eis_any A c [4607182418800017408, 4877398396442247168] (by intro x hx; simp at hx; omega) (by decide) w hT hr)
  rw [t_twoS, t_twoL] at C1
  rw [t_halH, t_halL] at C2
  rw [t_proP, t_proE] at C3
  rw [t_growL, t_growE] at C4
  rw [t_det, t_fin, if_pos rfl, if_pos rfl] at C5
  rw [t_is] at C6
  have HT := Lib.hid hT; clear hT
  have c47_47 : (FloatKind.f64.format.order 4845873199050653696 4845873199050653696 == some .eq) = true := by decide +kernel
  have c72_72 : (FloatKind.f64.format.order 4607182418800017408 4607182418800017408 == some .eq) = true := by decide +kernel
  have c19_19 : (FloatKind.f64.format.order 4728779608739020800 4728779608739020800 == some .eq) = true := by decide +kernel
  have c59_59 : (FloatKind.f64.format.order 4850376798745133056 4850376798745133056 == some .eq) = true := by decide +kernel
  go_enter Tryz.func21, Tryz.ntmps21
  go_wp2_with fail
  refine (C1.out _).mono ?_; rintro e1 w1 ⟨s1, l1, rfl, _, _, k1, k2, hb1⟩
  obtain rfl := fv_some k1
  obtain rfl := fv_some k2
  clear k1 k2
  rw [show canonD 4845873199050653696 = 4845873199050653696 by decide, show canonD 4607182418800017408 = 4607182418800017408 by decide]
  go_wp2_with fail
  refine (C2.out _).mono ?_; rintro e2 w2 ⟨s2, l2, rfl, _, _, k1, k2, hb2⟩
  obtain rfl := fv_some k1
  obtain rfl := fv_some k2
  clear k1 k2
  rw [show canonD 4728779608739020800 = 4728779608739020800 by decide, show canonD 4607182418800017408 = 4607182418800017408 by decide]
  go_wp2_with fail
  refine (C3.out _).mono ?_; rintro e3 w3 ⟨s3, l3, rfl, _, _, k1, k2, hb3⟩
  obtain rfl := fv_some k1
  obtain rfl := fv_some k2
  clear k1 k2
  rw [show canonD 4850376798745133056 = 4850376798745133056 by decide, show canonD 4607182418800017408 = 4607182418800017408 by decide]
  have h3 := (hb1.trans hb2).trans hb3
  clear hb1 hb2 hb3
  have HS := Lib.hid (P64.slAt_made w3 [4607182418800017408] _ 29 rfl)
  go_wp2_with fail
  refine (C4.out _ _ (HT.out.of (h3.alloc _)) HS.out).mono ?_; rintro e4 w4 ⟨sv, ls, rfl, ho, _, hm, hb4⟩
  obtain rfl := map_fv_two hm
  clear hm
  have h4 := (h3.alloc _).trans hb4
  clear hb4 h3
  obtain ⟨A, c, rfl, hc, hs, _⟩ := ho.form
  have HSL := Lib.hid hs
  clear ho
  go_wp2_with fail
  refine (C5.out _ (HT.out.of h4)).mono ?_; rintro e5 w5 ⟨rfl, hb5⟩
  have h5 := h4.trans hb5
  have HS5 := Lib.hid (hs.of hb5)
  clear hs HSL
  obtain ⟨ad, rfl, hblk, hcell⟩ := HS5.out.at (k := 0) (by decide)
  have hc0 : w5.cell? ad = some (.float .f64 4607182418800017408) := hcell
  clear hcell
  have C6' := Lib.hid (fun w hT hr => C6.out (some ad) c w hT hr)
  clear C6
  go_wp2_with fail
  refine (C6'.out _ (HT.out.of h5) HS5.out).mono ?_; rintro e6 w6 ⟨rfl, hb6⟩
  go_wp2
  go_ret
  exact ⟨rfl, h5.trans hb6⟩
end Go.Proofs.YtjmaggfddinbkaaGreatDoor
end

section
namespace Go.Proofs.YtjmaggfddinbkaaGreatDoor
open Go.RowKit
def ExR (W : World) (n E : Int) (e : Ending) (w' : World) : Prop := ∃ h, e = .returned (.agg #[.pointer (some ⟨h, 0, none⟩), .int .i64 E]) ∧ IntB w' h n ∧ W.heap.size ≤ h ∧ Within W w'
theorem IntB.setEx0 {w : World} {g n : Nat} {v : Int} {t : TypeId} {cs : Array Value} (h : IntB w g v) (hn : w.heap[n]? = some (.cells cs t (0, 0))) (ht : t ≠ 133) (hne : g ≠ n) {w' : World} (hb : ∀ k, k ≠ n → w'.heap[k]? = w.heap[k]?) : IntB w' g v := by
  obtain ⟨A, c, hb', hc, hr⟩ := h
  refine ⟨A, c, (hb _ hne).trans hb', hc, hr.of_block fun k m f hk => hb _ ?_⟩
  rintro rfl
  obtain ⟨cs', h1, _⟩ := hk
  rw [hn] at h1
  injection h1 with h1
  injection h1 with _ h2
  exact ht h2
theorem ex_set {w : World} {b h : Nat} {n E : Int} {x y : Value} (hb : w.heap[b]? = some (.cells #[x, y] 53 (0, 0))) (hI : IntB w h n) (hne : h ≠ b) :
    ((w.setCell ⟨b, 0, none⟩ (.pointer (some ⟨h, 0, none⟩))).setCell ⟨b, 1, none⟩ (.int .i64 E)).cell? ⟨b, 0, none⟩ = some (.pointer (some ⟨h, 0, none⟩)) ∧ ((w.setCell ⟨b, 0, none⟩ (.pointer (some ⟨h, 0, none⟩))).setCell ⟨b, 1, none⟩ (.int .i64 E)).cell? ⟨b, 1, none⟩ = some (.int .i64 E) ∧ IntB ((w.setCell ⟨b, 0, none⟩ (.pointer (some ⟨h, 0, none⟩))).setCell ⟨b, 1, none⟩ (.int .i64 E)) h n := by
  have h1 : ((w.setCell ⟨b, 0, none⟩ (.pointer (some ⟨h, 0, none⟩))).setCell ⟨b, 1, none⟩ (.int .i64 E)).heap[b]? = some (.cells #[.pointer (some ⟨h, 0, none⟩), .int .i64 E] 53 (0, 0)) := by
    simp [World.setCell, Array.getElem?_modify, hb]
  refine ⟨by unfold World.cell?; rw [h1]; rfl, by unfold World.cell?; rw [h1]; rfl, hI.setEx0 hb (by decide) hne (fun k hk => ?_)⟩
  rw [Below.heap_setCell _ _ _ _ hk, Below.heap_setCell _ _ _ _ hk]
theorem ex_cells {w : World} {b : Nat} (hb : w.heap[b]? = some (.cells #[.pointer none, .int .i64 0] 53 (0, 0))) : w.cell? ⟨b, 0, none⟩ = some (.pointer none) ∧ w.cell? ⟨b, 1, none⟩ = some (.int .i64 0) ∧ ∀ o, w.frozen? ⟨b, o, none⟩ = false :=
  ⟨by unfold World.cell?; rw [hb]; rfl, by unfold World.cell?; rw [hb]; rfl, fun o => by simp [World.frozen?, hb]⟩
set_option maxRecDepth 100000 in
set_option maxHeartbeats 600000 in
theorem Xneg (n E : Int) (g : Nat) (hl : (dg n.natAbs).length ≤ 1000) (w : World) (hI : IntB w g n) : Calls Tryz.prog 50 #[.agg #[.pointer (some ⟨g, 0, none⟩), .int .i64 E]] w (ExR w (-n) E) := by
  have HL := Lib.hid hl; clear hl
  go_enter Tryz.func50, Tryz.ntmps50
  go_wp2
  refine wp_region_schG (fun W => W.cell? ⟨w.heap.size, 0, none⟩ = some (.pointer (some ⟨g, 0, none⟩)) ∧ W.cell? ⟨w.heap.size, 1, none⟩ = some (.int .i64 E) ∧ W.heap[w.heap.size + 1]? = some (.cells #[.pointer none, .int .i64 0] 53 (0, 0)) ∧ IntB W g n ∧ w.heap.size < W.heap.size ∧ w.heap.size + 1 < W.heap.size ∧ Within w W) 7 (.firm 1 (.firm 2 (.firm 4 (.firm 5 (.one 0 (.one 3 (.firm 6 (.one 7 .nil)))))))) (by kernel_rfl) (by kernel_rfl) ⟨by go_simp, by go_simp, (by have := heap_alloc_new (w.alloc (.cells #[.pointer (some ⟨g, 0, none⟩), .int .i64 E] 53)) (.cells #[.pointer none, .int .i64 0] 53); simpa using this), (IntB.of hI (by repeat (first | with_reducible exact Within.refl _ | with_reducible assumption | with_reducible refine Within.alloc ?_ _ | with_reducible refine Within.drew ?_ | with_reducible refine Within.drewN ?_ _ | with_reducible refine Within.setCell ?_ (by first | (simp; done) | (simp; omega)) _ | with_reducible refine Within.trans ?_ (by assumption)))), by first | (simp; done) | (simp; omega), by first | (simp; done) | (simp; omega), (by repeat (first | with_reducible exact Within.refl _ | with_reducible assumption | with_reducible refine Within.alloc ?_ _ | with_reducible refine Within.drew ?_ | with_reducible refine Within.drewN ?_ _ | with_reducible refine Within.setCell ?_ (by first | (simp; done) | (simp; omega)) _ | with_reducible refine Within.trans ?_ (by assumption)))⟩ ?_
  rintro w0 ⟨c0, c1, hz, hI, l0, l1, hw0⟩
  try simp only [Act.put, List.setIfInBounds_toArray, List.set_cons_zero, List.set_cons_succ]
  apply sch_firm rfl rfl (by repeat (first | with_reducible exact Within.refl _ | with_reducible assumption | with_reducible refine Within.alloc ?_ _ | with_reducible refine Within.drew ?_ | with_reducible refine Within.drewN ?_ _ | with_reducible refine Within.setCell ?_ (by first | (simp; done) | (simp; omega)) _ | with_reducible refine Within.trans ?_ (by assumption)))
  · intro wq hq
    have hcq := hq.cells
    clear hq
    go_simp
    first | rfl | (trace_state; fail)
  try simp only [Act.put, List.setIfInBounds_toArray, List.set_cons_zero, List.set_cons_succ]
  apply sch_firm rfl rfl (by repeat (first | with_reducible exact Within.refl _ | with_reducible assumption | with_reducible refine Within.alloc ?_ _ | with_reducible refine Within.drew ?_ | with_reducible refine Within.drewN ?_ _ | with_reducible refine Within.setCell ?_ (by first | (simp; done) | (simp; omega)) _ | with_reducible refine Within.trans ?_ (by assumption)))
  · intro wq hq
    have hcq := hq.cells
    clear hq
    go_simp
    first | rfl | (trace_state; fail)
  try simp only [Act.put, List.setIfInBounds_toArray, List.set_cons_zero, List.set_cons_succ]
  apply sch_firm rfl rfl (by repeat (first | with_reducible exact Within.refl _ | with_reducible assumption | with_reducible refine Within.alloc ?_ _ | with_reducible refine Within.drew ?_ | with_reducible refine Within.drewN ?_ _ | with_reducible refine Within.setCell ?_ (by first | (simp; done) | (simp; omega)) _ | with_reducible refine Within.trans ?_ (by assumption)))
  · intro wq hq
    have hcq := hq.cells
    clear hq
    go_simp
    first | rfl | (trace_state; fail)
  try simp only [Act.put, List.setIfInBounds_toArray, List.set_cons_zero, List.set_cons_succ]
  apply sch_firm rfl rfl (by repeat (first | with_reducible exact Within.refl _ | with_reducible assumption | with_reducible refine Within.alloc ?_ _ | with_reducible refine Within.drew ?_ | with_reducible refine Within.drewN ?_ _ | with_reducible refine Within.setCell ?_ (by first | (simp; done) | (simp; omega)) _ | with_reducible refine Within.trans ?_ (by assumption)))
  · intro wq hq
    have hcq := hq.cells
    clear hq
    go_simp
    first | rfl | (trace_state; fail)
  try simp only [Act.put, List.setIfInBounds_toArray, List.set_cons_zero, List.set_cons_succ]
  refine sch_one rfl rfl (fun K hK => ?_)
  go_simp
  refine hK _ _ (fun _ => (by repeat (first | with_reducible exact Within.refl _ | with_reducible assumption | with_reducible refine Within.alloc ?_ _ | with_reducible refine Within.drew ?_ | with_reducible refine Within.drewN ?_ _ | with_reducible refine Within.setCell ?_ (by first | (simp; done) | (simp; omega)) _ | with_reducible refine Within.trans ?_ (by assumption)))) ?_
  clear hK K
  try simp only [Act.put, List.setIfInBounds_toArray, List.set_cons_zero, List.set_cons_succ]
  refine sch_one rfl rfl (fun K hK => ?_)
  go_simp
  refine (Bneg _ g n (Nat.le_trans HL.out (by decide)) _ (by exact (IntB.made w0).ty) (IntB.of hI (by repeat (first | with_reducible exact Within.refl _ | with_reducible assumption | with_reducible refine Within.alloc ?_ _ | with_reducible refine Within.drew ?_ | with_reducible refine Within.drewN ?_ _ | with_reducible refine Within.setCell ?_ (by first | (simp; done) | (simp; omega)) _ | with_reducible refine Within.trans ?_ (by assumption))))).mono ?_; rintro e5 w5 ⟨rfl, hJ, hG⟩
  have hv5 : Within w0 w5 := Within.grown (by repeat (first | with_reducible exact Within.refl _ | with_reducible assumption | with_reducible refine Within.alloc ?_ _ | with_reducible refine Within.drew ?_ | with_reducible refine Within.drewN ?_ _ | with_reducible refine Within.setCell ?_ (by first | (simp; done) | (simp; omega)) _ | with_reducible refine Within.trans ?_ (by assumption))) hG (by simp)
  have hz5 := (hv5.block _ l1).trans hz
  obtain ⟨y0, y1, yf⟩ := ex_cells hz5
  have yl := Nat.lt_of_lt_of_le l1 hv5.sizes
  refine hK _ _ (fun _ => (by repeat (first | with_reducible exact Within.refl _ | with_reducible assumption | with_reducible refine Within.alloc ?_ _ | with_reducible refine Within.drew ?_ | with_reducible refine Within.drewN ?_ _ | with_reducible refine Within.setCell ?_ (by first | (simp; done) | (simp; omega)) _ | with_reducible refine Within.trans ?_ (by assumption)))) ?_
  clear hK K
  try simp only [Act.put, List.setIfInBounds_toArray, List.set_cons_zero, List.set_cons_succ]
  apply sch_firm rfl rfl (by repeat (first | with_reducible exact Within.refl _ | with_reducible assumption | with_reducible refine Within.alloc ?_ _ | with_reducible refine Within.drew ?_ | with_reducible refine Within.drewN ?_ _ | with_reducible refine Within.setCell ?_ (by first | (simp; done) | (simp; omega)) _ | with_reducible refine Within.trans ?_ (by assumption)))
  · intro wq hq
    have hcq := hq.cells
    clear hq
    go_simp
    first | rfl | (trace_state; fail)
  try simp only [Act.put, List.setIfInBounds_toArray, List.set_cons_zero, List.set_cons_succ]
  refine sch_one rfl rfl (fun K hK => ?_)
  go_simp
  refine hK _ _ (fun h => absurd h (by decide)) ?_
  clear hK K
  try simp only [Act.put, List.setIfInBounds_toArray, List.set_cons_zero, List.set_cons_succ]
  refine sch_nil ?_
  obtain ⟨r0, r1, rI⟩ := ex_set (E := E) hz5 hJ (show w0.heap.size ≠ (w.heap.size + 1) by omega)
  have rl : (w.heap.size + 1) < w5.heap.size := by have := yl; omega
  go_wp2
  refine bodyPost_ret (v := .agg #[.pointer (some ⟨w0.heap.size, 0, none⟩), .int .i64 E]) (by simp [results, Tryz.results50, go_sem, r0, r1, rl]) rfl ⟨w0.heap.size, rfl, rI, hw0.sizes, ?_⟩
  exact ((hw0.trans hv5).setCell (by show _ ≤ (w.heap.size + 1); omega) _).setCell (by show _ ≤ (w.heap.size + 1); omega) _
def ofN (b : Nat) : Int := sgv (pNegD b) (pMantD b)
set_option maxRecDepth 100000 in
set_option maxHeartbeats 600000 in
theorem Xof0 (x : Nat) (neg : Bool) (m : Nat) (p : Int) (er : Value) (hm : m < 18446744073709551616) (CP : Hid (∀ w, Calls Tryz.prog 96 #[.float .f64 x] w fun e w' => e = .returned (.tuple #[.agg #[.bool neg, .int .u64 (m : Int), .int .i64 p], er]) ∧ Within w w')) (w : World) : Calls Tryz.prog 44 #[.float .f64 x] w (ExR w (sgv neg m) p) := by
  have HM := Lib.hid hm; clear hm
  go_enter Tryz.func44, Tryz.ntmps44
  go_wp2_with fail
  refine (CP.out _).mono ?_; rintro e1 w1 ⟨rfl, hb1⟩
  have HT : IntTy ((w1.alloc (.cells #[.bool neg, .int .u64 (m : Int), .int .i64 p] 97)).alloc (.cells #[.bool false, .slice none 0 0] 102)) (w1.heap.size + 1) := by
    have := (IntB.made (w1.alloc (.cells #[.bool neg, .int .u64 (m : Int), .int .i64 p] 97))).ty
    simpa using this
  go_wp2_with fail
  have k0 : ((w1.alloc (.cells #[.bool neg, .int .u64 (m : Int), .int .i64 p] 97)).alloc (.cells #[.bool false, .slice none 0 0] 102)).cell? ⟨w1.heap.size, 0, none⟩ = some (.bool neg) := by simp [go_sem]
  have k2 : ((w1.alloc (.cells #[.bool neg, .int .u64 (m : Int), .int .i64 p] 97)).alloc (.cells #[.bool false, .slice none 0 0] 102)).cell? ⟨w1.heap.size, 2, none⟩ = some (.int .i64 p) := by simp [go_sem]
  have hz1 : w1.heap[w.heap.size]? = some (.cells #[.pointer none, .int .i64 0] 53 (0, 0)) := (hb1.block _ (by simp)).trans (heap_alloc_new w _)
  have hww : Within w w1 := ((Within.refl w).alloc _).trans hb1
  have HW2 : Within w ((w1.alloc (.cells #[.bool neg, .int .u64 (m : Int), .int .i64 p] 97)).alloc (.cells #[.bool false, .slice none 0 0] 102)) := (hww.alloc _).alloc _
  have hzz : ((w1.alloc (.cells #[.bool neg, .int .u64 (m : Int), .int .i64 p] 97)).alloc (.cells #[.bool false, .slice none 0 0] 102)).heap[w.heap.size]? = some (.cells #[.pointer none, .int .i64 0] 53 (0, 0)) := ((((Within.refl w1).alloc _).alloc _).block _ (by have := hb1.size; simp at this; omega)).trans hz1
  obtain ⟨W2, hW2⟩ : ∃ W2, W2 = ((w1.alloc (.cells #[.bool neg, .int .u64 (m : Int), .int .i64 p] 97)).alloc (.cells #[.bool false, .slice none 0 0] 102)) := ⟨_, rfl⟩
  have hsz : W2.heap.size = w1.heap.size + 2 := by rw [hW2]; simp
  have hl : w.heap.size + 1 ≤ w1.heap.size := by have := hb1.size; simpa using this
  rw [← hW2] at HT k0 k2 HW2 hzz ⊢
  clear hW2 hz1
  have HS := Lib.hid hsz; have HL := Lib.hid hl; clear hsz hl
  refine (BsetUint64 (w1.heap.size + 1) m HM.out W2 HT).mono ?_; rintro e2 w2 ⟨rfl, hI2, hv2⟩
  have q0 := hv2.cell k0 (by simp)
  have q2 := hv2.cell k2 (by simp)
  have HLN := Lib.hid (show (dg (m : Int).natAbs).length ≤ 2000000 by rw [Int.natAbs_natCast]; exact Nat.le_trans (dg_len_le (k := 2) HM.out) (by decide))
  cases neg
  · rw [show sgv false m = (m : Int) from rfl]
    have hz2 := (hv2.block w.heap.size (by show w.heap.size < W2.heap.size; have := HS.out; have := HL.out; omega) (by simp; have := HL.out; omega)).trans hzz
    obtain ⟨y0, y1, yf⟩ := ex_cells hz2
    have yl : w.heap.size < w2.heap.size := World.block_lt_of_cell? _ _ y0
    have pl : w1.heap.size < w2.heap.size := World.block_lt_of_cell? _ _ q2
    obtain ⟨r0, r1, rI⟩ := ex_set (E := p) hz2 hI2 (show w1.heap.size + 1 ≠ w.heap.size by have := HL.out; omega)
    go_wp2
    refine bodyPost_ret (v := .agg #[.pointer (some ⟨(w1.heap.size + 1), 0, none⟩), .int .i64 p]) (by simp [results, Tryz.results44, go_sem, r0, r1, yl]) rfl ⟨w1.heap.size + 1, rfl, rI, by have := HL.out; omega, ?_⟩
    exact ((Within.grown HW2 hv2 (by have := HL.out; omega)).setCell (by show _ ≤ w.heap.size; omega) _).setCell (by show _ ≤ w.heap.size; omega) _
  · rw [show sgv true m = -(m : Int) from rfl]
    go_wp2_with fail
    refine (Bneg (w1.heap.size + 1) (w1.heap.size + 1) (m : Int) HLN.out w2 hI2.ty hI2).mono ?_; rintro e3 w3 ⟨rfl, hI3, hG3⟩
    have q2 := hG3.cell q2 (by simp)
    have hv3 := grown_trans hv2 hG3
    have hz3 := (hv3.block w.heap.size (by show w.heap.size < W2.heap.size; have := HS.out; have := HL.out; omega) (by simp; have := HL.out; omega)).trans hzz
    obtain ⟨y0, y1, yf⟩ := ex_cells hz3
    have yl : w.heap.size < w3.heap.size := World.block_lt_of_cell? _ _ y0
    have pl : w1.heap.size < w3.heap.size := World.block_lt_of_cell? _ _ q2
    obtain ⟨r0, r1, rI⟩ := ex_set (E := p) hz3 hI3 (show w1.heap.size + 1 ≠ w.heap.size by have := HL.out; omega)
    go_wp2
    refine bodyPost_ret (v := .agg #[.pointer (some ⟨(w1.heap.size + 1), 0, none⟩), .int .i64 p]) (by simp [results, Tryz.results44, go_sem, r0, r1, yl]) rfl ⟨w1.heap.size + 1, rfl, rI, by have := HL.out; omega, ?_⟩
    exact ((Within.grown HW2 hv3 (by have := HL.out; omega)).setCell (by show _ ≤ w.heap.size; omega) _).setCell (by show _ ≤ w.heap.size; omega) _
theorem Xof (b : Nat) (hb : b < 18446744073709551616) (w : World) : Calls Tryz.prog 44 #[.float .f64 b] w (ExR w (ofN b) (pExpD b)) :=
  Xof0 b (pNegD b) (pMantD b) (pExpD b) (.int .i64 (pErrD b)) (P64.pMantD_lt b) (Lib.hid fun w => Rparts_D b hb w) w
end Go.Proofs.YtjmaggfddinbkaaGreatDoor
end

section
namespace Go.Proofs.YtjmaggfddinbkaaGreatDoor
open Go.RowKit
def ExS (W : World) (n E : Int) (e : Ending) (w' : World) : Prop := ∃ h, e = .returned (.agg #[.pointer (some ⟨h, 0, none⟩), .int .i64 E]) ∧ IntB w' h n ∧ Within W w'
theorem ExR.s {W w' : World} {n E : Int} {e : Ending} (h : ExR W n E e w') : ExS W n E e w' := by
  obtain ⟨g, h1, h2, _, h4⟩ := h
  exact ⟨g, h1, h2, h4⟩
set_option maxRecDepth 100000 in
set_option maxHeartbeats 600000 in
theorem Xlow_same (n E e : Int) (g : Nat) (he : E ≤ e) (w : World) (hI : IntB w g n) : Calls Tryz.prog 104 #[.agg #[.pointer (some ⟨g, 0, none⟩), .int .i64 E], .int .i64 e] w (ExS w n E) := by
  have d : decide (e ≥ E) = true := decide_eq_true (by omega)
  clear he
  have hgl := hI.lt
  have HI := Lib.hid hI; clear hI
  have hz : ((w.alloc (.cells #[.pointer (some ⟨g, 0, none⟩), .int .i64 E] 53)).alloc (.cells #[.pointer none, .int .i64 0] 53)).heap[w.heap.size + 1]? = some (.cells #[.pointer none, .int .i64 0] 53 (0, 0)) := by have := heap_alloc_new (w.alloc (.cells #[.pointer (some ⟨g, 0, none⟩), .int .i64 E] 53)) (.cells #[.pointer none, .int .i64 0] 53); simpa using this
  go_enter Tryz.func104, Tryz.ntmps104
  go_wp2
  refine bodyPost_ret (v := .agg #[.pointer (some ⟨g, 0, none⟩), .int .i64 E]) (by simp [results, Tryz.results104, go_sem]) rfl ⟨g, rfl, HI.out.of (((Within.refl w).alloc _).alloc _), ((Within.refl w).alloc _).alloc _⟩
set_option maxRecDepth 100000 in
set_option maxHeartbeats 600000 in
theorem Xlow_less (n E e : Int) (g k : Nat) (he : E - e = (k : Int)) (hk : 0 < k) (hk2 : k ≤ 16000) (hl : (dg n.natAbs).length ≤ 1000) (w : World) (hI : IntB w g n) : Calls Tryz.prog 104 #[.agg #[.pointer (some ⟨g, 0, none⟩), .int .i64 E], .int .i64 e] w (ExS w (n * 2 ^ k) e) := by
  have d : decide (e ≥ E) = false := decide_eq_false (by omega)
  have hgl := hI.lt
  have HI := Lib.hid hI; clear hI
  have hz : ((w.alloc (.cells #[.pointer (some ⟨g, 0, none⟩), .int .i64 E] 53)).alloc (.cells #[.pointer none, .int .i64 0] 53)).heap[w.heap.size + 1]? = some (.cells #[.pointer none, .int .i64 0] 53 (0, 0)) := by have := heap_alloc_new (w.alloc (.cells #[.pointer (some ⟨g, 0, none⟩), .int .i64 E] 53)) (.cells #[.pointer none, .int .i64 0] 53); simpa using this
  have g1 : IntKind.i64.wrap (E - e) = (k : Int) := by rw [he, IntWalk.i64_in _ ⟨by omega, by omega⟩]
  have g2 : IntKind.u64.wrap (k : Int) = (k : Int) := by rw [IntKind.wrap_u64]; omega
  have CL := Lib.hid (fun z w' hz hx => Blsh z g k n (Nat.le_trans hl (by decide)) (Nat.le_trans hk2 (by decide)) w' hz hx)
  have hT : IntTy (((w.alloc (.cells #[.pointer (some ⟨g, 0, none⟩), .int .i64 E] 53)).alloc (.cells #[.pointer none, .int .i64 0] 53)).alloc (.cells #[.bool false, .slice none 0 0] 102)) (w.heap.size + 1 + 1) := by have := (IntB.made ((w.alloc (.cells #[.pointer (some ⟨g, 0, none⟩), .int .i64 E] 53)).alloc (.cells #[.pointer none, .int .i64 0] 53))).ty; simpa using this
  clear he hk hk2 hl
  go_enter Tryz.func104, Tryz.ntmps104
  go_wp2_with fail
  refine (CL.out _ _ (by exact hT) (HI.out.of ((((Within.refl w).alloc _).alloc _).alloc _))).mono ?_; rintro e5 w5 ⟨rfl, hJ, hG⟩
  have hz5 := (hG.block (w.heap.size + 1) (by simp) (by simp)).trans ((((Within.refl ((w.alloc (.cells #[.pointer (some ⟨g, 0, none⟩), .int .i64 E] 53)).alloc (.cells #[.pointer none, .int .i64 0] 53))).alloc _).block _ (by simp)).trans hz)
  obtain ⟨y0, y1, yf⟩ := ex_cells hz5
  have yl : w.heap.size + 1 < w5.heap.size := World.block_lt_of_cell? _ _ y0
  obtain ⟨r0, r1, rI⟩ := ex_set (E := e) hz5 hJ (by simp)
  have hv5 : Within w w5 := Within.grown ((((Within.refl w).alloc _).alloc _).alloc _) hG (by omega)
  go_wp2
  refine bodyPost_ret (v := .agg #[.pointer (some ⟨(w.heap.size + 1 + 1), 0, none⟩), .int .i64 e]) (by simp [results, Tryz.results104, go_sem, r0, r1, yl]) rfl ⟨_, rfl, rI, ?_⟩
  exact (hv5.setCell (by show _ ≤ w.heap.size + 1; omega) _).setCell (by show _ ≤ w.heap.size + 1; omega) _
end Go.Proofs.YtjmaggfddinbkaaGreatDoor
end

section
namespace Go.Proofs.YtjmaggfddinbkaaGreatDoor
open Go.RowKit
set_option maxRecDepth 100000 in
set_option maxHeartbeats 600000 in
theorem Bsign_zero (x : Nat) (v : Int) (h : v = 0) (w : World) (hx : IntB w x v) : Calls Tryz.prog 62 #[.pointer (some ⟨x, 0, none⟩)] w (fun e w' => e = .returned (.int .i64 (0)) ∧ w = w') := by
  obtain ⟨A, c, c0, c1, _⟩ := hx.rd
  subst h
  rw [show (dg (0 : Int).natAbs) = [] from dg_zero] at c1
  have d : (((List.length ([] : List Nat) : Nat) : Int) == 0) = true := rfl
  clear hx
  go_enter Tryz.func62, Tryz.ntmps62
  go_wp2
  go_ret
  exact ⟨rfl, rfl⟩
set_option maxRecDepth 100000 in
set_option maxHeartbeats 600000 in
theorem Bsign_neg (x : Nat) (v : Int) (h : v < 0) (w : World) (hx : IntB w x v) : Calls Tryz.prog 62 #[.pointer (some ⟨x, 0, none⟩)] w (fun e w' => e = .returned (.int .i64 (-1)) ∧ w = w') := by
  obtain ⟨A, c, c0, c1, _⟩ := hx.rd
  have hp := dg_len_pos (n := v.natAbs) (by omega)
  rw [decide_eq_true (by omega)] at c0
  obtain ⟨k, hk⟩ : ∃ k, k = (dg v.natAbs).length := ⟨_, rfl⟩
  rw [← hk] at c1 hp
  clear hk
  have d : ((k : Int) == 0) = false := beq_eq_false_iff_ne.2 (by omega)
  clear hx h
  go_enter Tryz.func62, Tryz.ntmps62
  go_wp2
  go_ret
  exact ⟨rfl, rfl⟩
set_option maxRecDepth 100000 in
set_option maxHeartbeats 600000 in
theorem Bsign_pos (x : Nat) (v : Int) (h : 0 < v) (w : World) (hx : IntB w x v) : Calls Tryz.prog 62 #[.pointer (some ⟨x, 0, none⟩)] w (fun e w' => e = .returned (.int .i64 (1)) ∧ w = w') := by
  obtain ⟨A, c, c0, c1, _⟩ := hx.rd
  have hp := dg_len_pos (n := v.natAbs) (by omega)
  rw [decide_eq_false (by omega)] at c0
  obtain ⟨k, hk⟩ : ∃ k, k = (dg v.natAbs).length := ⟨_, rfl⟩
  rw [← hk] at c1 hp
  clear hk
  have d : ((k : Int) == 0) = false := beq_eq_false_iff_ne.2 (by omega)
  clear hx h
  go_enter Tryz.func62, Tryz.ntmps62
  go_wp2
  go_ret
  exact ⟨rfl, rfl⟩
theorem Bsign (x : Nat) (v : Int) (w : World) (hx : IntB w x v) : Calls Tryz.prog 62 #[.pointer (some ⟨x, 0, none⟩)] w (fun e w' => e = .returned (.int .i64 v.sign) ∧ w = w') := by
  rcases Int.lt_trichotomy v 0 with h | h | h
  · rw [Int.sign_eq_neg_one_of_neg h]; exact Bsign_neg x v h w hx
  · subst h; exact Bsign_zero x 0 rfl w hx
  · rw [Int.sign_eq_one_of_pos h]; exact Bsign_pos x v h w hx
def cmpI (a b : Int) : Int := if a < b then -1 else if b < a then 1 else 0
theorem cmpN_range (a b : Nat) : -1 ≤ cmpN a b ∧ cmpN a b ≤ 1 := by unfold cmpN; split <;> (try split) <;> omega
def blen (n : Nat) : Nat := if n = 0 then 0 else n.log2 + 1
theorem blen_pos {n : Nat} (h : n ≠ 0) : blen n = n.log2 + 1 := if_neg h
theorem blen_top {n k : Nat} (hk : (dg n).length = k + 1) : blen n = 32 * k + Lib.bitLen ((dg n).getD k 0) ∧ (dg n).getD k 0 ≠ 0 ∧ (dg n).getD k 0 < 4294967296 := by
  have h0 : n ≠ 0 := fun h => by rw [h, dg_zero] at hk; simp at hk
  have ht := dg_last h0
  rw [hk, Nat.add_sub_cancel] at ht
  have hw := (words_dg n).getD k
  refine ⟨?_, ht, hw⟩
  have hs := lo_succ (dg n) k
  rw [lo_all _ (Nat.le_of_eq hk), wval_dg] at hs
  have hl := lo_lt (dg n) (words_dg n) k
  rw [blen_pos h0, bitLen_log2 _ ht (by omega)]
  generalize (dg n).getD k 0 = t at *
  have e : (4294967296 : Nat) ^ k = 2 ^ (32 * k) := by rw [show (4294967296 : Nat) = 2 ^ 32 from rfl, ← Nat.pow_mul]
  rw [e] at hs hl
  have h1 : n / 2 ^ (32 * k) = t := by
    rw [hs, Nat.add_mul_div_left _ _ (Nat.two_pow_pos _), Nat.div_eq_of_lt hl, Nat.zero_add]
  have h2 : n.log2 = 32 * k + t.log2 := by
    rw [Nat.log2_eq_iff h0]
    have a1 := Nat.log2_self_le ht
    have a2 := Nat.lt_log2_self (n := t)
    constructor
    · rw [Nat.pow_add]
      calc 2 ^ (32 * k) * 2 ^ t.log2 ≤ 2 ^ (32 * k) * t := Nat.mul_le_mul_left _ a1
        _ ≤ n := by rw [← h1]; exact Nat.mul_div_le _ _
    · rw [Nat.add_assoc, Nat.pow_add]
      have : n < 2 ^ (32 * k) * (t + 1) := by rw [← h1]; exact Nat.lt_mul_div_succ _ (Nat.two_pow_pos _)
      exact Nat.lt_of_lt_of_le this (Nat.mul_le_mul_left _ a2)
  omega
set_option maxRecDepth 100000 in
set_option maxHeartbeats 600000 in
theorem bits_len32' (x : Int) (w : World) (h0 : 0 ≤ x) (h1 : x ≤ 4294967295) : Calls Tryz.prog 135 #[.int .u32 x] w (fun e w' => e = .returned (.int .i64 (Lib.bitLen x.toNat)) ∧ w = w') := by
  have hsz := len8_size
  go_enter Tryz.func135, Tryz.ntmps135
  go_wp2
  all_goals (go_ret; refine ⟨ret_int ?_, rfl⟩)
  all_goals simp only [len8_at]
  · rw [← len_e24 x.toNat (by omega) (by omega), show (x / 65536 / 256).toNat = x.toNat / 16777216 by omega]
  · rw [← len_e16 x.toNat (by omega) (by omega), show (x / 65536).toNat = x.toNat / 65536 by omega]
  · rw [← len_e8 x.toNat (by omega) (by omega), show (x / 256).toNat = x.toNat / 256 by omega]
  · have := len_e0 x.toNat (by omega); simpa using this
theorem bits_len32 (x : Nat) (hx : x < 4294967296) (w : World) : Calls Tryz.prog 135 #[.int .u32 (x : Int)] w (fun e w' => e = .returned (.int .i64 (Lib.bitLen x)) ∧ w = w') := by
  have := bits_len32' (x : Int) w (by omega) (by omega)
  rwa [Int.toNat_natCast] at this
set_option maxRecDepth 100000 in
set_option maxHeartbeats 600000 in
theorem Bbitlen_zero (x : Nat) (w : World) (hx : IntB w x 0) : Calls Tryz.prog 101 #[.pointer (some ⟨x, 0, none⟩)] w (fun e w' => e = .returned (.int .i64 0) ∧ Within w w') := by
  obtain ⟨A, c, c0, c1, _⟩ := hx.rd
  rw [show (dg (0 : Int).natAbs) = [] from dg_zero] at c1
  clear hx
  go_enter Tryz.func101, Tryz.ntmps101
  go_wp2
  go_ret
  exact ⟨rfl, Within.refl _⟩
set_option maxRecDepth 100000 in
set_option maxHeartbeats 600000 in
theorem Bbitlen_pos (x k t gm c L : Nat) (hk : k ≤ 1000000) (hL : L ≤ 32) (w : World) (c1 : w.cell? ⟨x, 1, none⟩ = some (.slice (some ⟨gm, 0, none⟩) (k + 1) c)) (ct : w.cell? ⟨gm, k, none⟩ = some (.int .u32 (t : Int))) (LN : Hid (∀ w, Calls Tryz.prog 135 #[.int .u32 (t : Int)] w (fun e w' => e = .returned (.int .i64 (L : Int)) ∧ w = w'))) : Calls Tryz.prog 101 #[.pointer (some ⟨x, 0, none⟩)] w (fun e w' => e = .returned (.int .i64 (32 * (k : Int) + (L : Int))) ∧ Within w w') := by
  have e1 : IntKind.i64.wrap (k : Int) = (k : Int) := by rw [IntKind.wrap_i64]; omega
  have e2 : IntKind.i64.wrap (32 * (k : Int)) = 32 * (k : Int) := by rw [IntKind.wrap_i64]; omega
  have e3 : IntKind.i64.wrap (32 * (k : Int) + (L : Int)) = 32 * (k : Int) + (L : Int) := by rw [IntKind.wrap_i64]; omega
  have e4 : (k : Int) < (k : Int) + 1 := by omega
  go_enter Tryz.func101, Tryz.ntmps101
  go_wp2
  refine wp_region_sched (fun W => W.cell? ⟨x, 1, none⟩ = some (.slice (some ⟨gm, 0, none⟩) (k + 1) c) ∧ W.cell? ⟨gm, k, none⟩ = some (.int .u32 (t : Int))) 20 [(0, true), (1, true), (2, true), (3, true), (4, true), (5, true), (6, true), (7, true), (8, true), (9, true), (10, true), (11, true), (12, true), (13, true), (14, true), (15, true), (16, true), (17, true), (18, true), (19, false), (20, false), (21, false)] (by kernel_rfl) (by kernel_rfl) ⟨c1, ct⟩ ?_
  intro hS
  repeat
    apply sched_firm rfl rfl hS
    · intro wq hq
      have hq0 := hq.1; have hq1 := hq.2
      clear hq
      go_simp
      first | rfl | (trace_state; fail)
    try simp only [Act.put, List.setIfInBounds_toArray, List.set_cons_zero, List.set_cons_succ]
  refine sched_one rfl rfl (fun K hK => ?_)
  go_simp
  refine (LN.out w.drew).mono ?_
  rintro e1 w2 ⟨rfl, rfl⟩
  refine hK _ _ (fun h => ⟨c1, ct⟩) ?_
  clear hK K
  try simp only [Act.put, List.setIfInBounds_toArray, List.set_cons_zero, List.set_cons_succ]
  refine sched_one rfl rfl (fun K hK => ?_)
  go_simp
  refine hK _ _ (fun h => absurd h (by decide)) ?_
  clear hK K
  try simp only [Act.put, List.setIfInBounds_toArray, List.set_cons_zero, List.set_cons_succ]
  refine sched_one rfl rfl (fun K hK => ?_)
  go_simp
  refine hK _ _ (fun h => absurd h (by decide)) ?_
  clear hK K
  try simp only [Act.put, List.setIfInBounds_toArray, List.set_cons_zero, List.set_cons_succ]
  refine sched_nil ?_
  go_wp2
  go_ret
  exact ⟨rfl, (Within.refl w).drew⟩
theorem Bbitlen (x : Nat) (v : Int) (hv : (dg v.natAbs).length ≤ 1000000) (w : World) (hx : IntB w x v) : Calls Tryz.prog 101 #[.pointer (some ⟨x, 0, none⟩)] w (fun e w' => e = .returned (.int .i64 (blen v.natAbs : Nat)) ∧ Within w w') := by
  by_cases h : v = 0
  · subst h; exact Bbitlen_zero x w hx
  · obtain ⟨A, c, c0, c1, hr⟩ := hx.rd
    obtain ⟨k, hk⟩ : ∃ k, (dg v.natAbs).length = k + 1 := ⟨_, (Nat.succ_pred_eq_of_pos (dg_len_pos (by omega))).symm⟩
    obtain ⟨g, rfl, _, ct⟩ := hr.cell (i := k) (by omega)
    obtain ⟨hb, h0, hlt⟩ := blen_top hk
    have hL : Lib.bitLen ((dg v.natAbs).getD k 0) ≤ 32 := by
      rw [bitLen_log2 _ h0 (by omega)]
      have := (Nat.log2_lt h0 (k := 32)).2 hlt
      omega
    rw [hk] at c1
    refine (Bbitlen_pos x k _ g c _ (by omega) hL w c1 ct (Lib.hid fun w => bits_len32 _ hlt w)).mono fun e w' h => ⟨h.1.trans (ret_int ?_), h.2⟩
    rw [hb]; omega
end Go.Proofs.YtjmaggfddinbkaaGreatDoor
end

section
namespace Go.Proofs.YtjmaggfddinbkaaGreatDoor
open Go.RowKit
@[go_sem] theorem run_field_ex (a b : Value) (w : World) : (Instr.field 53 (.agg #[a, b]) 0).run Tryz.prog w = .ok a w := by
  kernel_rfl
theorem Xlow (n E e : Int) (g k : Nat) (he : E - e = (k : Int)) (hk2 : k ≤ 16000) (hl : (dg n.natAbs).length ≤ 1000) (w : World) (hI : IntB w g n) : Calls Tryz.prog 104 #[.agg #[.pointer (some ⟨g, 0, none⟩), .int .i64 E], .int .i64 e] w (ExS w (n * 2 ^ k) e) := by
  rcases Nat.eq_zero_or_pos k with h | h
  · subst h
    obtain rfl : E = e := by omega
    rw [Int.pow_zero, Int.mul_one]
    exact Xlow_same n E E g (Int.le_refl _) w hI
  · exact Xlow_less n E e g k he h hk2 hl w hI
theorem wp_new_int {o : Oper} {a : Act} {w : World} {K : Act → World → Prop} {Q : Exit → Act → World → Prop} (ho : o.op = .alloc 102)
    (h : ∀ z w', IntTy w' z → Within w w' → w.heap.size ≤ z → K (a.put o.dst (.pointer (some ⟨z, 0, none⟩))) w') : o.wp Tryz.prog a w K Q := by
  have h1 := h w.heap.size (w.alloc (.cells #[.bool false, .slice none 0 0] 102)) (IntB.made w).ty ((Within.refl w).alloc _) (Nat.le_refl _)
  unfold Oper.wp execOp
  rw [ho]
  go_simp
  exact h1
set_option maxRecDepth 100000 in
set_option maxHeartbeats 600000 in
theorem Xadd_l (n2 E1 E2 e : Int) (g1 g2 : Nat) (he : min E1 E2 = e) (w : World) (hI1 : IntB w g1 0) (hI2 : IntB w g2 n2) : Calls Tryz.prog 48 #[.agg #[.pointer (some ⟨g1, 0, none⟩), .int .i64 E1], .agg #[.pointer (some ⟨g2, 0, none⟩), .int .i64 E2]] w (ExS w n2 E2) := by
  have S1 := Lib.hid (fun w (h : IntB w g1 0) => Bsign g1 0 w h)
  rw [show (0 : Int).sign = 0 from rfl] at S1
  have J1 := Lib.hid (hI1.of ((((Within.refl w).alloc (.cells #[.pointer (some ⟨g1, 0, none⟩), .int .i64 E1] 53)).alloc (.cells #[.pointer (some ⟨g2, 0, none⟩), .int .i64 E2] 53)).alloc (.cells #[.pointer none, .int .i64 0] 53)))
  have HI2 := Lib.hid hI2; clear hI1 hI2
  go_enter Tryz.func48, Tryz.ntmps48
  go_wp2_with fail
  refine (S1.out _ J1.out).mono ?_; rintro e5 w5 ⟨rfl, rfl⟩
  go_wp2
  refine bodyPost_ret (v := .agg #[.pointer (some ⟨g2, 0, none⟩), .int .i64 E2]) (by simp [results, Tryz.results48, go_sem]) rfl ⟨g2, rfl, HI2.out.of ((((Within.refl w).alloc _).alloc _).alloc _), ((((Within.refl w).alloc _).alloc _).alloc _)⟩
set_option maxRecDepth 100000 in
set_option maxHeartbeats 600000 in
theorem Xadd_r (n1 E1 E2 e : Int) (g1 g2 : Nat) (he : min E1 E2 = e) (h1 : n1 ≠ 0) (w : World) (hI1 : IntB w g1 n1) (hI2 : IntB w g2 0) : Calls Tryz.prog 48 #[.agg #[.pointer (some ⟨g1, 0, none⟩), .int .i64 E1], .agg #[.pointer (some ⟨g2, 0, none⟩), .int .i64 E2]] w (ExS w n1 E1) := by
  have S1 := Lib.hid (fun w (h : IntB w g1 n1) => Bsign g1 n1 w h)
  have S2 := Lib.hid (fun w (h : IntB w g2 0) => Bsign g2 0 w h)
  rw [show (0 : Int).sign = 0 from rfl] at S2
  have d1 : (n1.sign == 0) = false := by rw [beq_eq_false_iff_ne]; intro h; exact h1 (Int.sign_eq_zero_iff_zero.1 h)
  clear h1
  have J1 := Lib.hid (hI1.of ((((Within.refl w).alloc (.cells #[.pointer (some ⟨g1, 0, none⟩), .int .i64 E1] 53)).alloc (.cells #[.pointer (some ⟨g2, 0, none⟩), .int .i64 E2] 53)).alloc (.cells #[.pointer none, .int .i64 0] 53)))
  have J2 := Lib.hid (hI2.of ((((Within.refl w).alloc (.cells #[.pointer (some ⟨g1, 0, none⟩), .int .i64 E1] 53)).alloc (.cells #[.pointer (some ⟨g2, 0, none⟩), .int .i64 E2] 53)).alloc (.cells #[.pointer none, .int .i64 0] 53)))
  have HI1 := Lib.hid hI1; clear hI1 hI2
  go_enter Tryz.func48, Tryz.ntmps48
  go_wp2_with fail
  refine (S1.out _ J1.out).mono ?_; rintro e5 w5 ⟨rfl, rfl⟩
  go_wp2_with fail
  refine (S2.out _ J2.out).mono ?_; rintro e5 w5 ⟨rfl, rfl⟩
  go_wp2
  refine bodyPost_ret (v := .agg #[.pointer (some ⟨g1, 0, none⟩), .int .i64 E1]) (by simp [results, Tryz.results48, go_sem]) rfl ⟨g1, rfl, HI1.out.of ((((Within.refl w).alloc _).alloc _).alloc _), ((((Within.refl w).alloc _).alloc _).alloc _)⟩
set_option maxRecDepth 100000 in
set_option maxHeartbeats 600000 in
theorem Xadd_sum (n1 n2 E1 E2 e : Int) (g1 g2 : Nat) (he : min E1 E2 = e) (v1 v2 : Int) (h1 : n1 ≠ 0) (h2 : n2 ≠ 0) (hv : (dg v1.natAbs).length ≤ 1000000 ∧ (dg v2.natAbs).length ≤ 1000000) (L1 : Hid (∀ w, IntB w g1 n1 → Calls Tryz.prog 104 #[.agg #[.pointer (some ⟨g1, 0, none⟩), .int .i64 E1], .int .i64 e] w (ExS w v1 e))) (L2 : Hid (∀ w, IntB w g2 n2 → Calls Tryz.prog 104 #[.agg #[.pointer (some ⟨g2, 0, none⟩), .int .i64 E2], .int .i64 e] w (ExS w v2 e))) (w : World) (hI1 : IntB w g1 n1) (hI2 : IntB w g2 n2) : Calls Tryz.prog 48 #[.agg #[.pointer (some ⟨g1, 0, none⟩), .int .i64 E1], .agg #[.pointer (some ⟨g2, 0, none⟩), .int .i64 E2]] w (ExS w (v1 + v2) e) := by
  have S1 := Lib.hid (fun w (h : IntB w g1 n1) => Bsign g1 n1 w h)
  have S2 := Lib.hid (fun w (h : IntB w g2 n2) => Bsign g2 n2 w h)
  have d1 : (n1.sign == 0) = false := by rw [beq_eq_false_iff_ne]; intro h; exact h1 (Int.sign_eq_zero_iff_zero.1 h)
  have d2 : (n2.sign == 0) = false := by rw [beq_eq_false_iff_ne]; intro h; exact h2 (Int.sign_eq_zero_iff_zero.1 h)
  have HV := Lib.hid hv; clear h1 h2 hv
  have J1 := Lib.hid (hI1.of ((((Within.refl w).alloc (.cells #[.pointer (some ⟨g1, 0, none⟩), .int .i64 E1] 53)).alloc (.cells #[.pointer (some ⟨g2, 0, none⟩), .int .i64 E2] 53)).alloc (.cells #[.pointer none, .int .i64 0] 53)))
  have J2 := Lib.hid (hI2.of ((((Within.refl w).alloc (.cells #[.pointer (some ⟨g1, 0, none⟩), .int .i64 E1] 53)).alloc (.cells #[.pointer (some ⟨g2, 0, none⟩), .int .i64 E2] 53)).alloc (.cells #[.pointer none, .int .i64 0] 53)))
  go_enter Tryz.func48, Tryz.ntmps48
  go_wp2_with fail
  refine (S1.out _ J1.out).mono ?_; rintro e5 w5 ⟨rfl, rfl⟩
  go_wp2_with fail
  refine (S2.out _ J2.out).mono ?_; rintro e5 w5 ⟨rfl, rfl⟩
  go_wp2
  refine wp_region_schG (fun W => W.cell? ⟨w.heap.size, 0, none⟩ = some (.pointer (some ⟨g1, 0, none⟩)) ∧ W.cell? ⟨w.heap.size, 1, none⟩ = some (.int .i64 E1) ∧ W.cell? ⟨w.heap.size + 1, 0, none⟩ = some (.pointer (some ⟨g2, 0, none⟩)) ∧ W.cell? ⟨w.heap.size + 1, 1, none⟩ = some (.int .i64 E2) ∧ W.heap[w.heap.size + 2]? = some (.cells #[.pointer none, .int .i64 0] 53 (0, 0)) ∧ IntB W g1 n1 ∧ IntB W g2 n2 ∧ w.heap.size < W.heap.size ∧ w.heap.size + 1 < W.heap.size ∧ w.heap.size + 2 < W.heap.size ∧ Within w W) 12 (.firm 1 (.firm 2 (.firm 5 (.firm 6 (.firm 10 (.two 0 (.one 3 (.firm 4 (.one 7 (.firm 8 (.one 9 (.firm 11 (.one 12 .nil))))))) 3 (.firm 4 (.two 0 (.one 7 (.firm 8 (.one 9 (.firm 11 (.one 12 .nil))))) 7 (.firm 8 (.one 0 (.one 9 (.firm 11 (.one 12 .nil))))))))))))) (by kernel_rfl) (by kernel_rfl) ⟨by go_simp, by go_simp, by go_simp, by go_simp, (by have := heap_alloc_new ((w.alloc (.cells #[.pointer (some ⟨g1, 0, none⟩), .int .i64 E1] 53)).alloc (.cells #[.pointer (some ⟨g2, 0, none⟩), .int .i64 E2] 53)) (.cells #[.pointer none, .int .i64 0] 53); simpa using this), hI1.of (by repeat (first | with_reducible exact Within.refl _ | with_reducible assumption | with_reducible refine Within.alloc ?_ _ | with_reducible refine Within.drew ?_ | with_reducible refine Within.drewN ?_ _ | with_reducible refine Within.setCell ?_ (by first | (simp; done) | (simp; omega)) _ | with_reducible refine Within.trans ?_ (by assumption))), hI2.of (by repeat (first | with_reducible exact Within.refl _ | with_reducible assumption | with_reducible refine Within.alloc ?_ _ | with_reducible refine Within.drew ?_ | with_reducible refine Within.drewN ?_ _ | with_reducible refine Within.setCell ?_ (by first | (simp; done) | (simp; omega)) _ | with_reducible refine Within.trans ?_ (by assumption))), by first | (simp; done) | (simp; omega), by first | (simp; done) | (simp; omega), by first | (simp; done) | (simp; omega), (by repeat (first | with_reducible exact Within.refl _ | with_reducible assumption | with_reducible refine Within.alloc ?_ _ | with_reducible refine Within.drew ?_ | with_reducible refine Within.drewN ?_ _ | with_reducible refine Within.setCell ?_ (by first | (simp; done) | (simp; omega)) _ | with_reducible refine Within.trans ?_ (by assumption)))⟩ ?_
  rintro w0 ⟨c0, c1, d0, d1, hz, hI1, hI2, l0, l1, l2, hw0⟩
  try simp only [Act.put, List.setIfInBounds_toArray, List.set_cons_zero, List.set_cons_succ]
  apply sch_firm rfl rfl (by repeat (first | with_reducible exact Within.refl _ | with_reducible assumption | with_reducible refine Within.alloc ?_ _ | with_reducible refine Within.drew ?_ | with_reducible refine Within.drewN ?_ _ | with_reducible refine Within.setCell ?_ (by first | (simp; done) | (simp; omega)) _ | with_reducible refine Within.trans ?_ (by assumption)))
  · intro wq hq
    have hcq := hq.cells
    clear hq
    go_simp
    first | rfl | (trace_state; fail)
  try simp only [Act.put, List.setIfInBounds_toArray, List.set_cons_zero, List.set_cons_succ]
  apply sch_firm rfl rfl (by repeat (first | with_reducible exact Within.refl _ | with_reducible assumption | with_reducible refine Within.alloc ?_ _ | with_reducible refine Within.drew ?_ | with_reducible refine Within.drewN ?_ _ | with_reducible refine Within.setCell ?_ (by first | (simp; done) | (simp; omega)) _ | with_reducible refine Within.trans ?_ (by assumption)))
  · intro wq hq
    have hcq := hq.cells
    clear hq
    go_simp
    first | rfl | (trace_state; fail)
  try simp only [Act.put, List.setIfInBounds_toArray, List.set_cons_zero, List.set_cons_succ]
  apply sch_firm rfl rfl (by repeat (first | with_reducible exact Within.refl _ | with_reducible assumption | with_reducible refine Within.alloc ?_ _ | with_reducible refine Within.drew ?_ | with_reducible refine Within.drewN ?_ _ | with_reducible refine Within.setCell ?_ (by first | (simp; done) | (simp; omega)) _ | with_reducible refine Within.trans ?_ (by assumption)))
  · intro wq hq
    have hcq := hq.cells
    clear hq
    go_simp
    first | rfl | (trace_state; fail)
  try simp only [Act.put, List.setIfInBounds_toArray, List.set_cons_zero, List.set_cons_succ]
  apply sch_firm rfl rfl (by repeat (first | with_reducible exact Within.refl _ | with_reducible assumption | with_reducible refine Within.alloc ?_ _ | with_reducible refine Within.drew ?_ | with_reducible refine Within.drewN ?_ _ | with_reducible refine Within.setCell ?_ (by first | (simp; done) | (simp; omega)) _ | with_reducible refine Within.trans ?_ (by assumption)))
  · intro wq hq
    have hcq := hq.cells
    clear hq
    go_simp
    first | rfl | (trace_state; fail)
  try simp only [Act.put, List.setIfInBounds_toArray, List.set_cons_zero, List.set_cons_succ]
  apply sch_firm rfl rfl (by repeat (first | with_reducible exact Within.refl _ | with_reducible assumption | with_reducible refine Within.alloc ?_ _ | with_reducible refine Within.drew ?_ | with_reducible refine Within.drewN ?_ _ | with_reducible refine Within.setCell ?_ (by first | (simp; done) | (simp; omega)) _ | with_reducible refine Within.trans ?_ (by assumption)))
  · intro wq hq
    have hcq := hq.cells
    clear hq
    go_simp
    first | rfl | (trace_state; fail)
  try simp only [Act.put, List.setIfInBounds_toArray, List.set_cons_zero, List.set_cons_succ]
  refine sch_two rfl rfl rfl rfl (fun K hK => ?_) (fun K hK => ?_)
  · refine wp_new_int rfl ?_
    intro z w4 hT hb4 hge
    have hz0 : w0.heap.size ≤ z := Nat.le_trans (Below.size (by show Within w0 _; repeat (first | with_reducible exact Within.refl _ | with_reducible assumption | with_reducible refine Within.alloc ?_ _ | with_reducible refine Within.drew ?_ | with_reducible refine Within.drewN ?_ _ | with_reducible refine Within.setCell ?_ (by first | (simp; done) | (simp; omega)) _ | with_reducible refine Within.trans ?_ (by assumption)))) hge
    refine hK _ _ (by repeat (first | with_reducible exact Within.refl _ | with_reducible assumption | with_reducible refine Within.alloc ?_ _ | with_reducible refine Within.drew ?_ | with_reducible refine Within.drewN ?_ _ | with_reducible refine Within.setCell ?_ (by first | (simp; done) | (simp; omega)) _ | with_reducible refine Within.trans ?_ (by assumption))) ?_
    clear hK K
    try simp only [Act.put, List.setIfInBounds_toArray, List.set_cons_zero, List.set_cons_succ]
    refine sch_one rfl rfl (fun K hK => ?_)
    go_simp
    refine (L1.out _ (IntB.of hI1 (by repeat (first | with_reducible exact Within.refl _ | with_reducible assumption | with_reducible refine Within.alloc ?_ _ | with_reducible refine Within.drew ?_ | with_reducible refine Within.drewN ?_ _ | with_reducible refine Within.setCell ?_ (by first | (simp; done) | (simp; omega)) _ | with_reducible refine Within.trans ?_ (by assumption))))).mono ?_; rintro e5 w5 ⟨q1, rfl, hA1, hb5⟩
    refine hK _ _ (fun _ => (by repeat (first | with_reducible exact Within.refl _ | with_reducible assumption | with_reducible refine Within.alloc ?_ _ | with_reducible refine Within.drew ?_ | with_reducible refine Within.drewN ?_ _ | with_reducible refine Within.setCell ?_ (by first | (simp; done) | (simp; omega)) _ | with_reducible refine Within.trans ?_ (by assumption)))) ?_
    clear hK K
    try simp only [Act.put, List.setIfInBounds_toArray, List.set_cons_zero, List.set_cons_succ]
    apply sch_firm rfl rfl (by repeat (first | with_reducible exact Within.refl _ | with_reducible assumption | with_reducible refine Within.alloc ?_ _ | with_reducible refine Within.drew ?_ | with_reducible refine Within.drewN ?_ _ | with_reducible refine Within.setCell ?_ (by first | (simp; done) | (simp; omega)) _ | with_reducible refine Within.trans ?_ (by assumption)))
    · intro wq hq
      have hcq := hq.cells
      clear hq
      go_simp
      first | rfl | (trace_state; fail)
    try simp only [Act.put, List.setIfInBounds_toArray, List.set_cons_zero, List.set_cons_succ]
    refine sch_one rfl rfl (fun K hK => ?_)
    go_simp
    refine (L2.out _ (IntB.of hI2 (by repeat (first | with_reducible exact Within.refl _ | with_reducible assumption | with_reducible refine Within.alloc ?_ _ | with_reducible refine Within.drew ?_ | with_reducible refine Within.drewN ?_ _ | with_reducible refine Within.setCell ?_ (by first | (simp; done) | (simp; omega)) _ | with_reducible refine Within.trans ?_ (by assumption))))).mono ?_; rintro e6 w6 ⟨q2, rfl, hA2, hb6⟩
    refine hK _ _ (fun _ => (by repeat (first | with_reducible exact Within.refl _ | with_reducible assumption | with_reducible refine Within.alloc ?_ _ | with_reducible refine Within.drew ?_ | with_reducible refine Within.drewN ?_ _ | with_reducible refine Within.setCell ?_ (by first | (simp; done) | (simp; omega)) _ | with_reducible refine Within.trans ?_ (by assumption)))) ?_
    clear hK K
    try simp only [Act.put, List.setIfInBounds_toArray, List.set_cons_zero, List.set_cons_succ]
    apply sch_firm rfl rfl (by repeat (first | with_reducible exact Within.refl _ | with_reducible assumption | with_reducible refine Within.alloc ?_ _ | with_reducible refine Within.drew ?_ | with_reducible refine Within.drewN ?_ _ | with_reducible refine Within.setCell ?_ (by first | (simp; done) | (simp; omega)) _ | with_reducible refine Within.trans ?_ (by assumption)))
    · intro wq hq
      have hcq := hq.cells
      clear hq
      go_simp
      first | rfl | (trace_state; fail)
    try simp only [Act.put, List.setIfInBounds_toArray, List.set_cons_zero, List.set_cons_succ]
    refine sch_one rfl rfl (fun K hK => ?_)
    go_simp
    refine (BAdd z q1 q2 v1 v2 HV.out.1 HV.out.2 _ (IntTy.of hT (by repeat (first | with_reducible exact Within.refl _ | with_reducible assumption | with_reducible refine Within.alloc ?_ _ | with_reducible refine Within.drew ?_ | with_reducible refine Within.drewN ?_ _ | with_reducible refine Within.setCell ?_ (by first | (simp; done) | (simp; omega)) _ | with_reducible refine Within.trans ?_ (by assumption)))) (IntB.of hA1 (by repeat (first | with_reducible exact Within.refl _ | with_reducible assumption | with_reducible refine Within.alloc ?_ _ | with_reducible refine Within.drew ?_ | with_reducible refine Within.drewN ?_ _ | with_reducible refine Within.setCell ?_ (by first | (simp; done) | (simp; omega)) _ | with_reducible refine Within.trans ?_ (by assumption)))) (IntB.of hA2 (by repeat (first | with_reducible exact Within.refl _ | with_reducible assumption | with_reducible refine Within.alloc ?_ _ | with_reducible refine Within.drew ?_ | with_reducible refine Within.drewN ?_ _ | with_reducible refine Within.setCell ?_ (by first | (simp; done) | (simp; omega)) _ | with_reducible refine Within.trans ?_ (by assumption))))).mono ?_; rintro e7 w7 ⟨rfl, hJ, hG⟩
    have hv7 : Within w0 w7 := Within.grown (by repeat (first | with_reducible exact Within.refl _ | with_reducible assumption | with_reducible refine Within.alloc ?_ _ | with_reducible refine Within.drew ?_ | with_reducible refine Within.drewN ?_ _ | with_reducible refine Within.setCell ?_ (by first | (simp; done) | (simp; omega)) _ | with_reducible refine Within.trans ?_ (by assumption))) hG hz0
    have hz5 := (hv7.block _ l2).trans hz
    obtain ⟨y0, y1, yf⟩ := ex_cells hz5
    have yl := Nat.lt_of_lt_of_le l2 hv7.sizes
    refine hK _ _ (fun _ => (by repeat (first | with_reducible exact Within.refl _ | with_reducible assumption | with_reducible refine Within.alloc ?_ _ | with_reducible refine Within.drew ?_ | with_reducible refine Within.drewN ?_ _ | with_reducible refine Within.setCell ?_ (by first | (simp; done) | (simp; omega)) _ | with_reducible refine Within.trans ?_ (by assumption)))) ?_
    clear hK K
    try simp only [Act.put, List.setIfInBounds_toArray, List.set_cons_zero, List.set_cons_succ]
    apply sch_firm rfl rfl (by repeat (first | with_reducible exact Within.refl _ | with_reducible assumption | with_reducible refine Within.alloc ?_ _ | with_reducible refine Within.drew ?_ | with_reducible refine Within.drewN ?_ _ | with_reducible refine Within.setCell ?_ (by first | (simp; done) | (simp; omega)) _ | with_reducible refine Within.trans ?_ (by assumption)))
    · intro wq hq
      have hcq := hq.cells
      clear hq
      go_simp
      first | rfl | (trace_state; fail)
    try simp only [Act.put, List.setIfInBounds_toArray, List.set_cons_zero, List.set_cons_succ]
    refine sch_one rfl rfl (fun K hK => ?_)
    go_simp
    refine hK _ _ (fun h => absurd h (by decide)) ?_
    clear hK K
    try simp only [Act.put, List.setIfInBounds_toArray, List.set_cons_zero, List.set_cons_succ]
    refine sch_nil ?_
    obtain ⟨r0, r1, rI⟩ := ex_set (E := e) hz5 hJ (show z ≠ (w.heap.size + 2) by omega)
    have rl : (w.heap.size + 2) < w7.heap.size := by have := yl; omega
    go_wp2
    refine bodyPost_ret (v := .agg #[.pointer (some ⟨z, 0, none⟩), .int .i64 e]) (by simp [results, Tryz.results48, go_sem, r0, r1, rl]) rfl ⟨z, rfl, rI, ?_⟩
    exact ((hw0.trans hv7).setCell (by show _ ≤ (w.heap.size + 2); omega) _).setCell (by show _ ≤ (w.heap.size + 2); omega) _
  · go_simp
    refine (L1.out _ (IntB.of hI1 (by repeat (first | with_reducible exact Within.refl _ | with_reducible assumption | with_reducible refine Within.alloc ?_ _ | with_reducible refine Within.drew ?_ | with_reducible refine Within.drewN ?_ _ | with_reducible refine Within.setCell ?_ (by first | (simp; done) | (simp; omega)) _ | with_reducible refine Within.trans ?_ (by assumption))))).mono ?_; rintro e5 w5 ⟨q1, rfl, hA1, hb5⟩
    refine hK _ _ (by repeat (first | with_reducible exact Within.refl _ | with_reducible assumption | with_reducible refine Within.alloc ?_ _ | with_reducible refine Within.drew ?_ | with_reducible refine Within.drewN ?_ _ | with_reducible refine Within.setCell ?_ (by first | (simp; done) | (simp; omega)) _ | with_reducible refine Within.trans ?_ (by assumption))) ?_
    clear hK K
    try simp only [Act.put, List.setIfInBounds_toArray, List.set_cons_zero, List.set_cons_succ]
    apply sch_firm rfl rfl (by repeat (first | with_reducible exact Within.refl _ | with_reducible assumption | with_reducible refine Within.alloc ?_ _ | with_reducible refine Within.drew ?_ | with_reducible refine Within.drewN ?_ _ | with_reducible refine Within.setCell ?_ (by first | (simp; done) | (simp; omega)) _ | with_reducible refine Within.trans ?_ (by assumption)))
    · intro wq hq
      have hcq := hq.cells
      clear hq
      go_simp
      first | rfl | (trace_state; fail)
    try simp only [Act.put, List.setIfInBounds_toArray, List.set_cons_zero, List.set_cons_succ]
    refine sch_two rfl rfl rfl rfl (fun K hK => ?_) (fun K hK => ?_)
    · refine wp_new_int rfl ?_
      intro z w4 hT hb4 hge
      have hz0 : w0.heap.size ≤ z := Nat.le_trans (Below.size (by show Within w0 _; repeat (first | with_reducible exact Within.refl _ | with_reducible assumption | with_reducible refine Within.alloc ?_ _ | with_reducible refine Within.drew ?_ | with_reducible refine Within.drewN ?_ _ | with_reducible refine Within.setCell ?_ (by first | (simp; done) | (simp; omega)) _ | with_reducible refine Within.trans ?_ (by assumption)))) hge
      refine hK _ _ (by repeat (first | with_reducible exact Within.refl _ | with_reducible assumption | with_reducible refine Within.alloc ?_ _ | with_reducible refine Within.drew ?_ | with_reducible refine Within.drewN ?_ _ | with_reducible refine Within.setCell ?_ (by first | (simp; done) | (simp; omega)) _ | with_reducible refine Within.trans ?_ (by assumption))) ?_
      clear hK K
      try simp only [Act.put, List.setIfInBounds_toArray, List.set_cons_zero, List.set_cons_succ]
      refine sch_one rfl rfl (fun K hK => ?_)
      go_simp
      refine (L2.out _ (IntB.of hI2 (by repeat (first | with_reducible exact Within.refl _ | with_reducible assumption | with_reducible refine Within.alloc ?_ _ | with_reducible refine Within.drew ?_ | with_reducible refine Within.drewN ?_ _ | with_reducible refine Within.setCell ?_ (by first | (simp; done) | (simp; omega)) _ | with_reducible refine Within.trans ?_ (by assumption))))).mono ?_; rintro e6 w6 ⟨q2, rfl, hA2, hb6⟩
      refine hK _ _ (fun _ => (by repeat (first | with_reducible exact Within.refl _ | with_reducible assumption | with_reducible refine Within.alloc ?_ _ | with_reducible refine Within.drew ?_ | with_reducible refine Within.drewN ?_ _ | with_reducible refine Within.setCell ?_ (by first | (simp; done) | (simp; omega)) _ | with_reducible refine Within.trans ?_ (by assumption)))) ?_
      clear hK K
      try simp only [Act.put, List.setIfInBounds_toArray, List.set_cons_zero, List.set_cons_succ]
      apply sch_firm rfl rfl (by repeat (first | with_reducible exact Within.refl _ | with_reducible assumption | with_reducible refine Within.alloc ?_ _ | with_reducible refine Within.drew ?_ | with_reducible refine Within.drewN ?_ _ | with_reducible refine Within.setCell ?_ (by first | (simp; done) | (simp; omega)) _ | with_reducible refine Within.trans ?_ (by assumption)))
      · intro wq hq
        have hcq := hq.cells
        clear hq
        go_simp
        first | rfl | (trace_state; fail)
      try simp only [Act.put, List.setIfInBounds_toArray, List.set_cons_zero, List.set_cons_succ]
      refine sch_one rfl rfl (fun K hK => ?_)
      go_simp
      refine (BAdd z q1 q2 v1 v2 HV.out.1 HV.out.2 _ (IntTy.of hT (by repeat (first | with_reducible exact Within.refl _ | with_reducible assumption | with_reducible refine Within.alloc ?_ _ | with_reducible refine Within.drew ?_ | with_reducible refine Within.drewN ?_ _ | with_reducible refine Within.setCell ?_ (by first | (simp; done) | (simp; omega)) _ | with_reducible refine Within.trans ?_ (by assumption)))) (IntB.of hA1 (by repeat (first | with_reducible exact Within.refl _ | with_reducible assumption | with_reducible refine Within.alloc ?_ _ | with_reducible refine Within.drew ?_ | with_reducible refine Within.drewN ?_ _ | with_reducible refine Within.setCell ?_ (by first | (simp; done) | (simp; omega)) _ | with_reducible refine Within.trans ?_ (by assumption)))) (IntB.of hA2 (by repeat (first | with_reducible exact Within.refl _ | with_reducible assumption | with_reducible refine Within.alloc ?_ _ | with_reducible refine Within.drew ?_ | with_reducible refine Within.drewN ?_ _ | with_reducible refine Within.setCell ?_ (by first | (simp; done) | (simp; omega)) _ | with_reducible refine Within.trans ?_ (by assumption))))).mono ?_; rintro e7 w7 ⟨rfl, hJ, hG⟩
      have hv7 : Within w0 w7 := Within.grown (by repeat (first | with_reducible exact Within.refl _ | with_reducible assumption | with_reducible refine Within.alloc ?_ _ | with_reducible refine Within.drew ?_ | with_reducible refine Within.drewN ?_ _ | with_reducible refine Within.setCell ?_ (by first | (simp; done) | (simp; omega)) _ | with_reducible refine Within.trans ?_ (by assumption))) hG hz0
      have hz5 := (hv7.block _ l2).trans hz
      obtain ⟨y0, y1, yf⟩ := ex_cells hz5
      have yl := Nat.lt_of_lt_of_le l2 hv7.sizes
      refine hK _ _ (fun _ => (by repeat (first | with_reducible exact Within.refl _ | with_reducible assumption | with_reducible refine Within.alloc ?_ _ | with_reducible refine Within.drew ?_ | with_reducible refine Within.drewN ?_ _ | with_reducible refine Within.setCell ?_ (by first | (simp; done) | (simp; omega)) _ | with_reducible refine Within.trans ?_ (by assumption)))) ?_
      clear hK K
      try simp only [Act.put, List.setIfInBounds_toArray, List.set_cons_zero, List.set_cons_succ]
      apply sch_firm rfl rfl (by repeat (first | with_reducible exact Within.refl _ | with_reducible assumption | with_reducible refine Within.alloc ?_ _ | with_reducible refine Within.drew ?_ | with_reducible refine Within.drewN ?_ _ | with_reducible refine Within.setCell ?_ (by first | (simp; done) | (simp; omega)) _ | with_reducible refine Within.trans ?_ (by assumption)))
      · intro wq hq
        have hcq := hq.cells
        clear hq
        go_simp
        first | rfl | (trace_state; fail)
      try simp only [Act.put, List.setIfInBounds_toArray, List.set_cons_zero, List.set_cons_succ]
      refine sch_one rfl rfl (fun K hK => ?_)
      go_simp
      refine hK _ _ (fun h => absurd h (by decide)) ?_
      clear hK K
      try simp only [Act.put, List.setIfInBounds_toArray, List.set_cons_zero, List.set_cons_succ]
      refine sch_nil ?_
      obtain ⟨r0, r1, rI⟩ := ex_set (E := e) hz5 hJ (show z ≠ (w.heap.size + 2) by omega)
      have rl : (w.heap.size + 2) < w7.heap.size := by have := yl; omega
      go_wp2
      refine bodyPost_ret (v := .agg #[.pointer (some ⟨z, 0, none⟩), .int .i64 e]) (by simp [results, Tryz.results48, go_sem, r0, r1, rl]) rfl ⟨z, rfl, rI, ?_⟩
      exact ((hw0.trans hv7).setCell (by show _ ≤ (w.heap.size + 2); omega) _).setCell (by show _ ≤ (w.heap.size + 2); omega) _
    · go_simp
      refine (L2.out _ (IntB.of hI2 (by repeat (first | with_reducible exact Within.refl _ | with_reducible assumption | with_reducible refine Within.alloc ?_ _ | with_reducible refine Within.drew ?_ | with_reducible refine Within.drewN ?_ _ | with_reducible refine Within.setCell ?_ (by first | (simp; done) | (simp; omega)) _ | with_reducible refine Within.trans ?_ (by assumption))))).mono ?_; rintro e6 w6 ⟨q2, rfl, hA2, hb6⟩
      refine hK _ _ (by repeat (first | with_reducible exact Within.refl _ | with_reducible assumption | with_reducible refine Within.alloc ?_ _ | with_reducible refine Within.drew ?_ | with_reducible refine Within.drewN ?_ _ | with_reducible refine Within.setCell ?_ (by first | (simp; done) | (simp; omega)) _ | with_reducible refine Within.trans ?_ (by assumption))) ?_
      clear hK K
      try simp only [Act.put, List.setIfInBounds_toArray, List.set_cons_zero, List.set_cons_succ]
      apply sch_firm rfl rfl (by repeat (first | with_reducible exact Within.refl _ | with_reducible assumption | with_reducible refine Within.alloc ?_ _ | with_reducible refine Within.drew ?_ | with_reducible refine Within.drewN ?_ _ | with_reducible refine Within.setCell ?_ (by first | (simp; done) | (simp; omega)) _ | with_reducible refine Within.trans ?_ (by assumption)))
      · intro wq hq
        have hcq := hq.cells
        clear hq
        go_simp
        first | rfl | (trace_state; fail)
      try simp only [Act.put, List.setIfInBounds_toArray, List.set_cons_zero, List.set_cons_succ]
      refine sch_one rfl rfl (fun K hK => ?_)
      refine wp_new_int rfl ?_
      intro z w4 hT hb4 hge
      have hz0 : w0.heap.size ≤ z := Nat.le_trans (Below.size (by show Within w0 _; repeat (first | with_reducible exact Within.refl _ | with_reducible assumption | with_reducible refine Within.alloc ?_ _ | with_reducible refine Within.drew ?_ | with_reducible refine Within.drewN ?_ _ | with_reducible refine Within.setCell ?_ (by first | (simp; done) | (simp; omega)) _ | with_reducible refine Within.trans ?_ (by assumption)))) hge
      refine hK _ _ (fun _ => (by repeat (first | with_reducible exact Within.refl _ | with_reducible assumption | with_reducible refine Within.alloc ?_ _ | with_reducible refine Within.drew ?_ | with_reducible refine Within.drewN ?_ _ | with_reducible refine Within.setCell ?_ (by first | (simp; done) | (simp; omega)) _ | with_reducible refine Within.trans ?_ (by assumption)))) ?_
      clear hK K
      try simp only [Act.put, List.setIfInBounds_toArray, List.set_cons_zero, List.set_cons_succ]
      refine sch_one rfl rfl (fun K hK => ?_)
      go_simp
      refine (BAdd z q1 q2 v1 v2 HV.out.1 HV.out.2 _ (IntTy.of hT (by repeat (first | with_reducible exact Within.refl _ | with_reducible assumption | with_reducible refine Within.alloc ?_ _ | with_reducible refine Within.drew ?_ | with_reducible refine Within.drewN ?_ _ | with_reducible refine Within.setCell ?_ (by first | (simp; done) | (simp; omega)) _ | with_reducible refine Within.trans ?_ (by assumption)))) (IntB.of hA1 (by repeat (first | with_reducible exact Within.refl _ | with_reducible assumption | with_reducible refine Within.alloc ?_ _ | with_reducible refine Within.drew ?_ | with_reducible refine Within.drewN ?_ _ | with_reducible refine Within.setCell ?_ (by first | (simp; done) | (simp; omega)) _ | with_reducible refine Within.trans ?_ (by assumption)))) (IntB.of hA2 (by repeat (first | with_reducible exact Within.refl _ | with_reducible assumption | with_reducible refine Within.alloc ?_ _ | with_reducible refine Within.drew ?_ | with_reducible refine Within.drewN ?_ _ | with_reducible refine Within.setCell ?_ (by first | (simp; done) | (simp; omega)) _ | with_reducible refine Within.trans ?_ (by assumption))))).mono ?_; rintro e7 w7 ⟨rfl, hJ, hG⟩
      have hv7 : Within w0 w7 := Within.grown (by repeat (first | with_reducible exact Within.refl _ | with_reducible assumption | with_reducible refine Within.alloc ?_ _ | with_reducible refine Within.drew ?_ | with_reducible refine Within.drewN ?_ _ | with_reducible refine Within.setCell ?_ (by first | (simp; done) | (simp; omega)) _ | with_reducible refine Within.trans ?_ (by assumption))) hG hz0
      have hz5 := (hv7.block _ l2).trans hz
      obtain ⟨y0, y1, yf⟩ := ex_cells hz5
      have yl := Nat.lt_of_lt_of_le l2 hv7.sizes
      refine hK _ _ (fun _ => (by repeat (first | with_reducible exact Within.refl _ | with_reducible assumption | with_reducible refine Within.alloc ?_ _ | with_reducible refine Within.drew ?_ | with_reducible refine Within.drewN ?_ _ | with_reducible refine Within.setCell ?_ (by first | (simp; done) | (simp; omega)) _ | with_reducible refine Within.trans ?_ (by assumption)))) ?_
      clear hK K
      try simp only [Act.put, List.setIfInBounds_toArray, List.set_cons_zero, List.set_cons_succ]
      apply sch_firm rfl rfl (by repeat (first | with_reducible exact Within.refl _ | with_reducible assumption | with_reducible refine Within.alloc ?_ _ | with_reducible refine Within.drew ?_ | with_reducible refine Within.drewN ?_ _ | with_reducible refine Within.setCell ?_ (by first | (simp; done) | (simp; omega)) _ | with_reducible refine Within.trans ?_ (by assumption)))
      · intro wq hq
        have hcq := hq.cells
        clear hq
        go_simp
        first | rfl | (trace_state; fail)
      try simp only [Act.put, List.setIfInBounds_toArray, List.set_cons_zero, List.set_cons_succ]
      refine sch_one rfl rfl (fun K hK => ?_)
      go_simp
      refine hK _ _ (fun h => absurd h (by decide)) ?_
      clear hK K
      try simp only [Act.put, List.setIfInBounds_toArray, List.set_cons_zero, List.set_cons_succ]
      refine sch_nil ?_
      obtain ⟨r0, r1, rI⟩ := ex_set (E := e) hz5 hJ (show z ≠ (w.heap.size + 2) by omega)
      have rl : (w.heap.size + 2) < w7.heap.size := by have := yl; omega
      go_wp2
      refine bodyPost_ret (v := .agg #[.pointer (some ⟨z, 0, none⟩), .int .i64 e]) (by simp [results, Tryz.results48, go_sem, r0, r1, rl]) rfl ⟨z, rfl, rI, ?_⟩
      exact ((hw0.trans hv7).setCell (by show _ ≤ (w.heap.size + 2); omega) _).setCell (by show _ ≤ (w.heap.size + 2); omega) _
end Go.Proofs.YtjmaggfddinbkaaGreatDoor
end

section
namespace Go.Proofs.YtjmaggfddinbkaaGreatDoor
open Go.RowKit
def valE (n E : Int) (L : Nat) : Int := n * 2 ^ (E + L).toNat
theorem val_low {n E e : Int} {L k : Nat} (he : E - e = (k : Int)) (hL : -(L : Int) ≤ e) : valE (n * 2 ^ k) e L = valE n E L := by
  unfold valE
  rw [Int.mul_assoc, ← Int.pow_add, show k + (e + L).toNat = (E + L).toNat by omega]
theorem val_zero (E : Int) (L : Nat) : valE 0 E L = 0 := by unfold valE; rw [Int.zero_mul]
theorem val_add (n m E : Int) (L : Nat) : valE n E L + valE m E L = valE (n + m) E L := by unfold valE; rw [Int.add_mul]
theorem val_neg (n E : Int) (L : Nat) : valE (-n) E L = -valE n E L := by unfold valE; rw [Int.neg_mul]
theorem val_len (n E : Int) (L : Nat) : (dg n.natAbs).length ≤ (dg (valE n E L).natAbs).length := by
  apply dg_len_mono
  unfold valE
  rw [Int.natAbs_mul, Int.natAbs_pow]
  exact Nat.le_mul_of_pos_right _ (Nat.pow_pos (by decide))
theorem val_sign (n E : Int) (L : Nat) : (valE n E L).sign = n.sign := by
  unfold valE
  rw [Int.sign_mul, Int.sign_eq_one_of_pos (Int.pow_pos (by decide)), Int.mul_one]
def ExW (L U : Nat) (z : Int) (W : World) (e : Ending) (w' : World) : Prop := ∃ h n E, e = .returned (.agg #[.pointer (some ⟨h, 0, none⟩), .int .i64 E]) ∧ IntB w' h n ∧ -(L : Int) ≤ E ∧ E ≤ (U : Int) ∧ valE n E L = z ∧ Within W w'
theorem ExS.w {W w' : World} {n E : Int} {e : Ending} (L U : Nat) (h : ExS W n E e w') (h1 : -(L : Int) ≤ E) (h2 : E ≤ (U : Int)) : ExW L U (valE n E L) W e w' := by
  obtain ⟨g, k1, k2, k3⟩ := h
  exact ⟨g, n, E, k1, k2, h1, h2, rfl, k3⟩
theorem Xadd (n1 n2 E1 E2 : Int) (g1 g2 L U : Nat) (hL : L ≤ 9000) (hU : U ≤ 6000) (a1 : -(L : Int) ≤ E1) (a2 : E1 ≤ (U : Int)) (b1 : -(L : Int) ≤ E2) (b2 : E2 ≤ (U : Int)) (hl1 : (dg n1.natAbs).length ≤ 900) (hl2 : (dg n2.natAbs).length ≤ 900) (w : World) (hI1 : IntB w g1 n1) (hI2 : IntB w g2 n2) : Calls Tryz.prog 48 #[.agg #[.pointer (some ⟨g1, 0, none⟩), .int .i64 E1], .agg #[.pointer (some ⟨g2, 0, none⟩), .int .i64 E2]] w (ExW L U (valE n1 E1 L + valE n2 E2 L) w) := by
  by_cases h1 : n1 = 0
  · subst h1
    rw [val_zero, Int.zero_add]
    exact (Xadd_l n2 E1 E2 _ g1 g2 rfl w hI1 hI2).mono fun e w' h => h.w L U b1 b2
  · by_cases h2 : n2 = 0
    · subst h2
      rw [val_zero, Int.add_zero]
      exact (Xadd_r n1 E1 E2 _ g1 g2 rfl h1 w hI1 hI2).mono fun e w' h => h.w L U a1 a2
    · obtain ⟨e, he⟩ : ∃ e, min E1 E2 = e := ⟨_, rfl⟩
      obtain ⟨k1, hk1⟩ : ∃ k1 : Nat, E1 - e = (k1 : Int) := ⟨(E1 - e).toNat, by omega⟩
      obtain ⟨k2, hk2⟩ : ∃ k2 : Nat, E2 - e = (k2 : Int) := ⟨(E2 - e).toNat, by omega⟩
      have len : ∀ (n : Int) (k : Nat), k ≤ 16000 → (dg n.natAbs).length ≤ 900 → (dg (n * 2 ^ k).natAbs).length ≤ 1000000 := by
        intro n k hk hl
        rw [Int.natAbs_mul, Int.natAbs_pow]
        exact Nat.le_trans (dg_shl_le (k := 500) hl (by omega)) (by decide)
      refine (Xadd_sum n1 n2 E1 E2 e g1 g2 he (n1 * 2 ^ k1) (n2 * 2 ^ k2) h1 h2 ⟨len n1 k1 (by omega) hl1, len n2 k2 (by omega) hl2⟩ (Lib.hid fun w h => Xlow n1 E1 e g1 k1 hk1 (by omega) (Nat.le_trans hl1 (by decide)) w h) (Lib.hid fun w h => Xlow n2 E2 e g2 k2 hk2 (by omega) (Nat.le_trans hl2 (by decide)) w h) w hI1 hI2).mono fun e' w' h => ?_
      have := h.w L U (by omega) (by omega)
      rw [← val_add, val_low hk1 (by omega), val_low hk2 (by omega)] at this
      exact this
set_option maxRecDepth 100000 in
set_option maxHeartbeats 600000 in
theorem Xcmp0 (n1 n2 E1 E2 z : Int) (g1 g2 L U : Nat) (CN : Hid (∀ w, IntB w g2 n2 → Calls Tryz.prog 50 #[.agg #[.pointer (some ⟨g2, 0, none⟩), .int .i64 E2]] w (ExR w (-n2) E2))) (CA : Hid (∀ h w, IntB w g1 n1 → IntB w h (-n2) → Calls Tryz.prog 48 #[.agg #[.pointer (some ⟨g1, 0, none⟩), .int .i64 E1], .agg #[.pointer (some ⟨h, 0, none⟩), .int .i64 E2]] w (ExW L U z w))) (w : World) (hI1 : IntB w g1 n1) (hI2 : IntB w g2 n2) : Calls Tryz.prog 30 #[.agg #[.pointer (some ⟨g1, 0, none⟩), .int .i64 E1], .agg #[.pointer (some ⟨g2, 0, none⟩), .int .i64 E2]] w (fun e w' => e = .returned (.int .i64 z.sign) ∧ Within w w') := by
  go_enter Tryz.func30, Tryz.ntmps30
  go_wp2
  refine wp_region_schG (fun W => W.cell? ⟨w.heap.size, 0, none⟩ = some (.pointer (some ⟨g1, 0, none⟩)) ∧ W.cell? ⟨w.heap.size, 1, none⟩ = some (.int .i64 E1) ∧ W.cell? ⟨w.heap.size + 1, 0, none⟩ = some (.pointer (some ⟨g2, 0, none⟩)) ∧ W.cell? ⟨w.heap.size + 1, 1, none⟩ = some (.int .i64 E2) ∧ IntB W g1 n1 ∧ IntB W g2 n2 ∧ w.heap.size < W.heap.size ∧ w.heap.size + 1 < W.heap.size ∧ Within w W) 6 (.firm 0 (.firm 1 (.one 2 (.one 3 (.firm 4 (.one 5 (.one 6 .nil))))))) (by kernel_rfl) (by kernel_rfl) ⟨by go_simp, by go_simp, by go_simp, by go_simp, hI1.of (by repeat (first | with_reducible exact Within.refl _ | with_reducible assumption | with_reducible refine Within.alloc ?_ _ | with_reducible refine Within.drew ?_ | with_reducible refine Within.drewN ?_ _ | with_reducible refine Within.setCell ?_ (by first | (simp; done) | (simp; omega)) _ | with_reducible refine Within.trans ?_ (by assumption))), hI2.of (by repeat (first | with_reducible exact Within.refl _ | with_reducible assumption | with_reducible refine Within.alloc ?_ _ | with_reducible refine Within.drew ?_ | with_reducible refine Within.drewN ?_ _ | with_reducible refine Within.setCell ?_ (by first | (simp; done) | (simp; omega)) _ | with_reducible refine Within.trans ?_ (by assumption))), by first | (simp; done) | (simp; omega), by first | (simp; done) | (simp; omega), (by repeat (first | with_reducible exact Within.refl _ | with_reducible assumption | with_reducible refine Within.alloc ?_ _ | with_reducible refine Within.drew ?_ | with_reducible refine Within.drewN ?_ _ | with_reducible refine Within.setCell ?_ (by first | (simp; done) | (simp; omega)) _ | with_reducible refine Within.trans ?_ (by assumption)))⟩ ?_
  rintro w0 ⟨c0, c1, d0, d1, hI1, hI2, l0, l1, hw0⟩
  try simp only [Act.put, List.setIfInBounds_toArray, List.set_cons_zero, List.set_cons_succ]
  apply sch_firm rfl rfl (by repeat (first | with_reducible exact Within.refl _ | with_reducible assumption | with_reducible refine Within.alloc ?_ _ | with_reducible refine Within.drew ?_ | with_reducible refine Within.drewN ?_ _ | with_reducible refine Within.setCell ?_ (by first | (simp; done) | (simp; omega)) _ | with_reducible refine Within.trans ?_ (by assumption)))
  · intro wq hq
    have hcq := hq.cells
    clear hq
    go_simp
    first | rfl | (trace_state; fail)
  try simp only [Act.put, List.setIfInBounds_toArray, List.set_cons_zero, List.set_cons_succ]
  apply sch_firm rfl rfl (by repeat (first | with_reducible exact Within.refl _ | with_reducible assumption | with_reducible refine Within.alloc ?_ _ | with_reducible refine Within.drew ?_ | with_reducible refine Within.drewN ?_ _ | with_reducible refine Within.setCell ?_ (by first | (simp; done) | (simp; omega)) _ | with_reducible refine Within.trans ?_ (by assumption)))
  · intro wq hq
    have hcq := hq.cells
    clear hq
    go_simp
    first | rfl | (trace_state; fail)
  try simp only [Act.put, List.setIfInBounds_toArray, List.set_cons_zero, List.set_cons_succ]
  refine sch_one rfl rfl (fun K hK => ?_)
  go_simp
  refine (CN.out _ (IntB.of hI2 (by repeat (first | with_reducible exact Within.refl _ | with_reducible assumption | with_reducible refine Within.alloc ?_ _ | with_reducible refine Within.drew ?_ | with_reducible refine Within.drewN ?_ _ | with_reducible refine Within.setCell ?_ (by first | (simp; done) | (simp; omega)) _ | with_reducible refine Within.trans ?_ (by assumption))))).mono ?_; rintro e5 w5 ⟨h, rfl, hN, _, hb5⟩
  refine hK _ _ (fun _ => (by repeat (first | with_reducible exact Within.refl _ | with_reducible assumption | with_reducible refine Within.alloc ?_ _ | with_reducible refine Within.drew ?_ | with_reducible refine Within.drewN ?_ _ | with_reducible refine Within.setCell ?_ (by first | (simp; done) | (simp; omega)) _ | with_reducible refine Within.trans ?_ (by assumption)))) ?_
  clear hK K
  try simp only [Act.put, List.setIfInBounds_toArray, List.set_cons_zero, List.set_cons_succ]
  refine sch_one rfl rfl (fun K hK => ?_)
  go_simp
  refine (CA.out h _ (IntB.of hI1 (by repeat (first | with_reducible exact Within.refl _ | with_reducible assumption | with_reducible refine Within.alloc ?_ _ | with_reducible refine Within.drew ?_ | with_reducible refine Within.drewN ?_ _ | with_reducible refine Within.setCell ?_ (by first | (simp; done) | (simp; omega)) _ | with_reducible refine Within.trans ?_ (by assumption)))) (IntB.of hN (by repeat (first | with_reducible exact Within.refl _ | with_reducible assumption | with_reducible refine Within.alloc ?_ _ | with_reducible refine Within.drew ?_ | with_reducible refine Within.drewN ?_ _ | with_reducible refine Within.setCell ?_ (by first | (simp; done) | (simp; omega)) _ | with_reducible refine Within.trans ?_ (by assumption))))).mono ?_; rintro e6 w6 ⟨q, m, F, rfl, hM, _, _, hv, hb6⟩
  refine hK _ _ (fun _ => (by repeat (first | with_reducible exact Within.refl _ | with_reducible assumption | with_reducible refine Within.alloc ?_ _ | with_reducible refine Within.drew ?_ | with_reducible refine Within.drewN ?_ _ | with_reducible refine Within.setCell ?_ (by first | (simp; done) | (simp; omega)) _ | with_reducible refine Within.trans ?_ (by assumption)))) ?_
  clear hK K
  try simp only [Act.put, List.setIfInBounds_toArray, List.set_cons_zero, List.set_cons_succ]
  apply sch_firm rfl rfl (by repeat (first | with_reducible exact Within.refl _ | with_reducible assumption | with_reducible refine Within.alloc ?_ _ | with_reducible refine Within.drew ?_ | with_reducible refine Within.drewN ?_ _ | with_reducible refine Within.setCell ?_ (by first | (simp; done) | (simp; omega)) _ | with_reducible refine Within.trans ?_ (by assumption)))
  · intro wq hq
    have hcq := hq.cells
    clear hq
    go_simp
    first | rfl | (trace_state; fail)
  try simp only [Act.put, List.setIfInBounds_toArray, List.set_cons_zero, List.set_cons_succ]
  refine sch_one rfl rfl (fun K hK => ?_)
  go_simp
  refine (Bsign q m _ hM).mono ?_; rintro e7 w7 ⟨rfl, rfl⟩
  refine hK _ _ (fun _ => (by repeat (first | with_reducible exact Within.refl _ | with_reducible assumption | with_reducible refine Within.alloc ?_ _ | with_reducible refine Within.drew ?_ | with_reducible refine Within.drewN ?_ _ | with_reducible refine Within.setCell ?_ (by first | (simp; done) | (simp; omega)) _ | with_reducible refine Within.trans ?_ (by assumption)))) ?_
  clear hK K
  try simp only [Act.put, List.setIfInBounds_toArray, List.set_cons_zero, List.set_cons_succ]
  refine sch_one rfl rfl (fun K hK => ?_)
  go_simp
  refine hK _ _ (fun h => absurd h (by decide)) ?_
  clear hK K
  try simp only [Act.put, List.setIfInBounds_toArray, List.set_cons_zero, List.set_cons_succ]
  refine sch_nil ?_
  go_wp2
  go_ret
  exact ⟨ret_int (by rw [← hv, val_sign]), ((hw0.drew.trans hb5).trans hb6)⟩
theorem Xcmp (n1 n2 E1 E2 : Int) (g1 g2 L U : Nat) (hL : L ≤ 9000) (hU : U ≤ 6000) (a1 : -(L : Int) ≤ E1) (a2 : E1 ≤ (U : Int)) (b1 : -(L : Int) ≤ E2) (b2 : E2 ≤ (U : Int)) (hl1 : (dg n1.natAbs).length ≤ 900) (hl2 : (dg n2.natAbs).length ≤ 900) (w : World) (hI1 : IntB w g1 n1) (hI2 : IntB w g2 n2) : Calls Tryz.prog 30 #[.agg #[.pointer (some ⟨g1, 0, none⟩), .int .i64 E1], .agg #[.pointer (some ⟨g2, 0, none⟩), .int .i64 E2]] w (fun e w' => e = .returned (.int .i64 (valE n1 E1 L - valE n2 E2 L).sign) ∧ Within w w') :=
  Xcmp0 n1 n2 E1 E2 _ g1 g2 L U (Lib.hid fun w h => Xneg n2 E2 g2 (Nat.le_trans hl2 (by decide)) w h) (Lib.hid fun h w k1 k2 => by
    have := Xadd n1 (-n2) E1 E2 g1 h L U hL hU a1 a2 b1 b2 hl1 (by rw [Int.natAbs_neg]; exact hl2) w k1 k2
    rw [val_neg, ← Int.sub_eq_add_neg] at this
    exact this) w hI1 hI2
end Go.Proofs.YtjmaggfddinbkaaGreatDoor
end

section
namespace Go.Proofs.YtjmaggfddinbkaaGreatDoor
open Go.RowKit
theorem of_val (b : Nat) : valE (ofN b) (pExpD b) 1074 = P64.wholeI b := rfl
theorem dg_len_of {n e k : Nat} (h : n < 2 ^ e) (he : e ≤ 32 * k) : (dg n).length ≤ k :=
  dg_len_le (Nat.lt_of_lt_of_le h (by rw [show (4294967296 : Nat) = 2 ^ 32 from rfl, ← Nat.pow_mul]; exact Nat.pow_le_pow_right (by decide) he))
theorem lim80 {k : Nat} (h : k ≤ 2174) : 64 + k ≤ 32 * 80 := by omega
theorem whole_len (b : Nat) : (dg (P64.wholeI b).natAbs).length ≤ 80 := dg_len_of (P64.wholeI_lt b) (lim80 (by have := (P64.pExpD_range b).2; omega))
theorem XofW (b : Nat) (hb : b < 18446744073709551616) (w : World) : Calls Tryz.prog 44 #[.float .f64 b] w (ExW 1074 1100 (P64.wholeI b) w) := by
  refine (Xof b hb w).mono fun e w' ⟨h, h1, h2, _, h4⟩ => ⟨h, ofN b, pExpD b, h1, h2, (P64.pExpD_range b).1, (P64.pExpD_range b).2, of_val b, h4⟩
theorem ne_ex {w : World} {g b : Nat} {v : Int} {cs : Array Value} (hI : IntB w g v) (hz : w.heap[b]? = some (.cells cs 53 (0, 0))) : g ≠ b := by
  rintro rfl
  obtain ⟨A, c, hb, _⟩ := hI
  rw [hz] at hb
  injection hb with hb
  injection hb with _ h2
  exact absurd h2 (by decide)
end Go.Proofs.YtjmaggfddinbkaaGreatDoor
end

section
namespace Go.Proofs.YtjmaggfddinbkaaGreatDoor
def FzL : List (Option Nat) → List Int → Prop
  | [], [] => True
  | v :: vs, z :: zs => Fz v z ∧ FzL vs zs
  | _, _ => False
theorem FzL.length : ∀ {vs : List (Option Nat)} {zs : List Int}, FzL vs zs → vs.length = zs.length
  | [], [], _ => rfl
  | _ :: _, _ :: _, h => by simp [h.2.length]
  | [], _ :: _, h => h.elim
  | _ :: _, [], h => h.elim
theorem FzL.append : ∀ {vs : List (Option Nat)} {zs : List Int} {us : List (Option Nat)} {ys : List Int}, FzL vs zs → FzL us ys → FzL (vs ++ us) (zs ++ ys)
  | [], [], _, _, _, g => g
  | _ :: _, _ :: _, _, _, h, g => ⟨h.1, h.2.append g⟩
  | [], _ :: _, _, _, h, _ => h.elim
  | _ :: _, [], _, _, h, _ => h.elim
theorem FzL.one {v : Option Nat} {z : Int} (h : Fz v z) : FzL [v] [z] := ⟨h, trivial⟩
theorem FzL.rep : ∀ {vs : List (Option Nat)} {zs : List Int}, FzL vs zs → ∀ z ∈ zs, RepZ z
  | [], [], _ => fun z hz => absurd hz (by simp)
  | _ :: _, _ :: _, h => fun z hz => by
    rcases List.mem_cons.1 hz with rfl | hz
    · exact h.1.rep
    · exact h.2.rep z hz
  | [], _ :: _, h => h.elim
  | _ :: _, [], h => h.elim
theorem FzL.reverse : ∀ {vs : List (Option Nat)} {zs : List Int}, FzL vs zs → FzL vs.reverse zs.reverse
  | [], [], _ => trivial
  | v :: vs, z :: zs, h => by
    rw [List.reverse_cons, List.reverse_cons]
    exact h.2.reverse.append (FzL.one h.1)
  | [], _ :: _, h => h.elim
  | _ :: _, [], h => h.elim
theorem un_zero {x : Nat} : Fp.un Ieee.double x = 0 ↔ x % 9223372036854775808 = 0 := by
  have h : (Fp.un Ieee.double x).natAbs = Fp.mag Ieee.double (x % 9223372036854775808) := by rw [un_abs, Fp.rg64]
  constructor
  · intro h0
    rw [h0] at h
    have : Fp.mag Ieee.double 0 = Fp.mag Ieee.double (x % 9223372036854775808) := by rw [Fp.mag_zero]; exact h
    exact ((Fp.mag_inj Ieee.double).1 this).symm
  · intro h0
    rw [h0, Fp.mag_zero] at h
    omega
end Go.Proofs.YtjmaggfddinbkaaGreatDoor
end

section
namespace Go.Proofs.YtjmaggfddinbkaaGreatDoor
theorem pMant_odd {b : Nat} (h : b % 9223372036854775808 < 9218868437227405312) (h0 : Fp.un Ieee.double b ≠ 0) : ∃ m, pMantD b = 2 * m + 1 := by
  have hm : Fp.mag Ieee.double (b % 9223372036854775808) ≠ 0 := by
    have := un_abs b
    rw [Fp.rg64] at this
    omega
  obtain ⟨_, _, h3⟩ := fin_exp h
  have h1 : mantD b ≠ 0 := by
    intro h1
    rw [mag_parts h, h1, Nat.zero_mul] at hm
    exact hm rfl
  obtain ⟨m, e1, _, _⟩ := odd_split h1 (by have := mantD_lt b; omega)
  unfold pMantD
  rw [if_neg (by omega)]
  exact ⟨m, e1⟩
theorem abs_parts {b : Nat} (h : b % 9223372036854775808 < 9218868437227405312) : (Fp.un Ieee.double b).natAbs = pMantD b * 2 ^ (pExpD b + 1074).toNat := by
  rw [un_abs, Fp.rg64, mag_odd h]
theorem mu_nat {k c : Nat} {z : Int} (h : z.natAbs = c * 2 ^ k) : Mu k z := by
  rcases Int.natAbs_eq z with e | e
  · exact ⟨c, by rw [e, h, Int.natCast_mul, cast_pow]⟩
  · exact ⟨-c, by rw [e, h, Int.natCast_mul, cast_pow, Int.neg_mul]⟩
end Go.Proofs.YtjmaggfddinbkaaGreatDoor
end

section
namespace Go.Proofs.YtjmaggfddinbkaaGreatDoor
/-! Compress -/
def ds (q : Nat) (d : List Nat) (k : Nat) : Lay := ((d.map fv).take k).foldl downStep ⟨fv q, [], false⟩
def us (D : Lay) (k : Nat) : Lay := (D.l.reverse.take k).foldl upStep ⟨D.q, [], D.ov⟩
/-! Value -/
def vs (es : List Nat) (k : Nat) : Option Nat := ((es.map fv).take k).foldl (fop .add) (some 0)
end Go.Proofs.YtjmaggfddinbkaaGreatDoor
end

section
namespace Go.Proofs.YtjmaggfddinbkaaGreatDoor
open Go.RowKit
def Tab32 (w : World) : Prop := ∀ j, j < 32 → w.cell? ⟨1, j, none⟩ = some (.int .u8 (Lib.deBruijn32tab.getD j 0))
theorem Tab32.of {w w' : World} (h : Tab32 w) (k : Within w w') : Tab32 w' := fun j hj => by
  rw [k.cells _ _ (World.block_lt_of_cell? w _ (h j hj))]
  exact h j hj
set_option maxRecDepth 100000 in
set_option maxHeartbeats 600000 in
theorem tz32_core (x k idx : Nat) (w : World) (hx0 : ((x : Int) == 0) = false)
    (key : IntKind.u32.wrap (bits BinOp.and IntKind.u32 (x : Int) (IntKind.u32.wrap (-(x : Int))) * 125613361) / 134217728 = (idx : Int))
    (hi : idx < 32) (hk : k < 32) (hcell : w.cell? ⟨1, idx, none⟩ = some (.int .u8 k)) :
    Calls Tryz.prog 131 #[.int .u32 x] w fun e w' => e = .returned (.int .i64 k) ∧ w = w' := by
  rw [IntKind.wrap_u32, IntKind.wrap_u32] at key
  have k2 : (bits BinOp.and IntKind.u32 (x : Int) (-(x : Int) % 4294967296) * 125613361 % 4294967296 / 134217728).toNat = idx := by rw [key]; rfl
  go_enter Tryz.func131, Tryz.ntmps131
  go_wp2_with (simp only [key])
  go_ret
  exact ⟨rfl, rfl⟩
theorem tz32_key (x a : Nat) (hx : x < 4294967296) (hx0 : x ≠ 0) (hlow : x &&& (4294967296 - x) = a) :
    IntKind.u32.wrap (bits BinOp.and IntKind.u32 (x : Int) (IntKind.u32.wrap (-(x : Int))) * 125613361) / 134217728 = ((a * 125613361 % 4294967296 / 134217728 : Nat) : Int) := by
  have e1 : IntKind.u32.wrap (-(x : Int)) = ((4294967296 - x : Nat) : Int) := by rw [IntKind.wrap_u32]; omega
  have e2 : bits BinOp.and IntKind.u32 (x : Int) ((4294967296 - x : Nat) : Int) = ((x &&& (4294967296 - x) : Nat) : Int) := u32_and_nat x _ hx (by omega)
  rw [e1, e2, hlow, IntKind.wrap_u32]
  omega
theorem bits_tz32 (x : Nat) (h0 : x ≠ 0) (hx : x < 4294967296) (w : World) (hT : Tab32 w) :
    Calls Tryz.prog 131 #[.int .u32 x] w fun e w' => e = .returned (.int .i64 (Lib.ctz 32 x)) ∧ w = w' := by
  obtain ⟨hlow, hk⟩ := Lib.lowest_bit 32 x h0 hx
  obtain ⟨hi, htab⟩ := Lib.deBruijn32_at _ hk
  have hcell := hT _ hi
  rw [htab] at hcell
  exact tz32_core x _ _ w (by simp; omega) (tz32_key x _ hx h0 hlow) hi hk hcell
theorem ctz32_split {x : Nat} (h0 : x ≠ 0) (hx : x < 4294967296) : ∃ m, x = 2 ^ Lib.ctz 32 x * (2 * m + 1) ∧ Lib.ctz 32 x < 32 := by
  have := Lib.ctzFrom_spec 32 x (Nat.pos_of_ne_zero h0) hx
  unfold Lib.ctz
  first | exact this | (rw [if_neg h0]; exact this)
theorem OwnW.one (w : World) : OwnW (w.alloc (.cells #[.int .u32 1] 133)) w.heap.size [1] := by
  have h := World.rowIs_alloc w #[.int .u32 1] 133 (fun i => .int .u32 ((([1] : List Nat).getD i 0 : Nat) : Int)) (fun i hi => by
    have : i = 0 := by simpa using hi
    subst this
    rfl)
  exact h
theorem dg_one : dg 1 = [1] := by rw [dg_pos (by decide), show 1 / 4294967296 = 0 by decide, dg_zero]
set_option maxRecDepth 100000 in
set_option maxHeartbeats 600000 in
theorem Brsh_neg (z x n a : Nat) (h0 : 0 < a) (A : Option Addr) (ca : Nat) (ha : (dg a).length ≤ 1000000) (hn : n ≤ 40000000) (w : World) (hz : IntTy w z) (a0 : w.cell? ⟨x, 0, none⟩ = some (.bool true)) (a1 : w.cell? ⟨x, 1, none⟩ = some (.slice A (dg a).length ca)) (hra : RowAt w A (dg a)) : Calls Tryz.prog 100 #[.pointer (some ⟨z, 0, none⟩), .pointer (some ⟨x, 0, none⟩), .int .u64 (n : Int)] w (PutI w z (-(((a - 1) / 2 ^ n + 1 : Nat) : Int))) := by
  have HZ := Lib.hid hz; have HRA := Lib.hid hra; clear hz hra
  have MI := Lib.hid (fun w (Bv : Option Addr) (hra : RowAt w A (dg a)) (hrb : RowAt w Bv [1]) => (show Calls Tryz.prog 133 #[.slice A (dg a).length ca, .slice Bv 1 1] w (RetW w (a - 1)) from by
    have := Bminus a 1 A Bv ca 1 (Nat.le_trans ha (by decide)) h0 w hra (by rw [dg_one]; exact hrb)
    rw [dg_one] at this
    exact this))
  have RI := Lib.hid (fun w (A' : Option Addr) (c' : Nat) (hr : RowAt w A' (dg (a - 1))) => Bright (a - 1) A' c' n (Nat.le_trans (dg_len_mono (Nat.sub_le a 1)) (Nat.le_trans ha (by decide))) hn w hr)
  obtain ⟨q, hq⟩ : ∃ q, q = (a - 1) / 2 ^ n := ⟨_, rfl⟩
  have hql : (dg q).length ≤ 1000000 := by rw [hq]; exact Nat.le_trans (dg_len_mono (Nat.le_trans (Nat.div_le_self _ _) (Nat.sub_le a 1))) ha
  have hql2 : (dg (q + 1)).length ≤ 1000000 := Nat.le_trans (dg_len_mono (by rw [hq]; have := Nat.div_le_self (a - 1) (2 ^ n); omega)) ha
  rw [← hq] at RI ⊢
  have HQL := Lib.hid (And.intro hql hql2)
  have PL := Lib.hid (fun w (A' Bv : Option Addr) (c' : Nat) (hra : RowAt w A' (dg q)) (hrb : RowAt w Bv [1]) => (show Calls Tryz.prog 134 #[.slice A' (dg q).length c', .slice Bv 1 1] w (RetW w (q + 1)) from by
    have := Bplus q 1 A' Bv c' 1 (Nat.le_trans hql (by decide)) (by rw [dg_one]; decide) w hra (by rw [dg_one]; exact hrb)
    rw [dg_one] at this
    exact this))
  clear hq hql hql2 h0 ha hn
  have hw1 : Within w (w.alloc (.cells #[.int .u32 1] 133)) := (Within.refl w).alloc _
  go_enter Tryz.func100, Tryz.ntmps100
  go_wp2_with fail
  refine (MI.out _ _ (HRA.out.of hw1) (OwnW.one w).at).mono ?_; rintro e2 w2 ⟨A2, c2, rfl, hc2, hr2, hb2⟩
  go_wp2_with fail
  refine (RI.out _ A2 c2 hr2).mono ?_; rintro e3 w3 ⟨A3, c3, rfl, hc3, hr3, hb3⟩
  go_wp2_with fail
  refine (PL.out _ A3 _ c3 (hr3.of ((Within.refl w3).alloc _)) (OwnW.one w3).at).mono ?_; rintro e4 w4 ⟨A4, c4, rfl, hc4, hr4, hb4⟩
  have hb : Within w w4 := ((hw1.trans hb2).trans hb3).trans (((Within.refl w3).alloc _).trans hb4)
  go_wp2_with fail
  refine (Bput z true (dg (q + 1)) A4 c4 (words_dg _) hc4 (Nat.le_trans HQL.out.2 (by decide)) w4 hr4 (HZ.out.of hb)).mono ?_
  rintro e5 w5 ⟨rfl, hI, hG⟩
  go_wp2
  go_ret
  rw [wval_dg] at hI
  exact ⟨rfl, hI, grown_trans (grown_within z hb) hG⟩
theorem BrshD (z x t : Nat) (v r : Int) (h0 : v ≠ 0) (hv : v = r * 2 ^ t) (hl : (dg v.natAbs).length ≤ 1000000) (ht : t ≤ 40000000) (w : World) (hz : IntTy w z) (hx : IntB w x v) : Calls Tryz.prog 100 #[.pointer (some ⟨z, 0, none⟩), .pointer (some ⟨x, 0, none⟩), .int .u64 (t : Int)] w (PutI w z r) := by
  have ha : v.natAbs = r.natAbs * 2 ^ t := by rw [hv, natAbs_mul_pow]
  have hp := Nat.two_pow_pos t
  rcases Int.lt_or_le v 0 with g | g
  · obtain ⟨A, ca, a0, a1, hra⟩ := hx.rd
    rw [decide_eq_true g] at a0
    have h1 := Brsh_neg z x t v.natAbs (by omega) A ca hl ht w hz a0 a1 hra
    have hr0 : r < 0 := by
      rcases Int.lt_or_le r 0 with h | h
      · exact h
      · have := Int.mul_nonneg h (Int.le_of_lt (Int.pow_pos (show (0 : Int) < 2 by decide) : (0 : Int) < 2 ^ t))
        rw [← hv] at this; omega
    have e : (v.natAbs - 1) / 2 ^ t + 1 = r.natAbs := by
      obtain ⟨k, hk⟩ : ∃ k, r.natAbs = k + 1 := ⟨r.natAbs - 1, by omega⟩
      rw [ha, hk, Nat.add_mul, Nat.one_mul]
      have h3 : (k * 2 ^ t + 2 ^ t - 1) / 2 ^ t = k := by
        have : k * 2 ^ t + 2 ^ t - 1 = (2 ^ t - 1) + 2 ^ t * k := by rw [Nat.mul_comm]; omega
        rw [this, Nat.add_mul_div_left _ _ hp, Nat.div_eq_of_lt (by omega), Nat.zero_add]
      rw [h3]
    rw [e, show -((r.natAbs : Nat) : Int) = r by omega] at h1
    exact h1
  · have h1 := Brsh z x t v.natAbs (Nat.le_trans hl (by decide)) ht w hz (by rw [Int.natAbs_of_nonneg g]; exact hx)
    have hr0 : 0 ≤ r := by
      rcases Int.lt_or_le r 0 with h | h
      · have := Int.mul_neg_of_neg_of_pos h (Int.pow_pos (show (0 : Int) < 2 by decide) : (0 : Int) < 2 ^ t)
        rw [← hv] at this; omega
      · exact h
    have e : v.natAbs / 2 ^ t = r.natAbs := by rw [ha, Nat.mul_div_cancel _ hp]
    rw [e, Int.natAbs_of_nonneg hr0] at h1
    exact h1
theorem lo_none {l : List Nat} : ∀ k, (∀ j, j < k → l.getD j 0 = 0) → lo l k = 0
  | 0, _ => lo_zero l
  | k + 1, h => by rw [lo_succ, lo_none k fun j hj => h j (by omega), h k (by omega), Nat.mul_zero]
theorem tzb_split {l : List Nat} (hw : Words l) {k : Nat} (hk : k < l.length) (hz : ∀ j, j < k → l.getD j 0 = 0) (h0 : l.getD k 0 ≠ 0) : ∃ m, wval l = 2 ^ (32 * k + Lib.ctz 32 (l.getD k 0)) * (2 * m + 1) := by
  obtain ⟨m, h1, h2⟩ := ctz32_split h0 (hw.getD k)
  have e : l.drop k = l.getD k 0 :: l.drop (k + 1) := by rw [List.drop_eq_getElem_cons hk, List.getD, List.getElem?_eq_getElem hk]; rfl
  have h3 := wval_split l k
  rw [lo_none k hz, Nat.zero_add, e] at h3
  have h4 : wval (l.getD k 0 :: l.drop (k + 1)) = l.getD k 0 + 4294967296 * wval (l.drop (k + 1)) := rfl
  rw [h4] at h3
  generalize Lib.ctz 32 (l.getD k 0) = c at *
  refine ⟨m + 2 ^ (31 - c) * wval (l.drop (k + 1)), ?_⟩
  rw [h3, h1, show (4294967296 : Nat) = 2 ^ c * (2 * 2 ^ (31 - c)) by rw [← Nat.pow_succ', ← Nat.pow_add, show c + (31 - c + 1) = 32 by omega], show (2 ^ c * (2 * 2 ^ (31 - c))) ^ k = 2 ^ (32 * k) by rw [← Nat.pow_succ', ← Nat.pow_add, show c + (31 - c + 1) = 32 by omega, ← Nat.pow_mul], Nat.pow_add]
  generalize 2 ^ c = X
  generalize 2 ^ (31 - c) = Y
  generalize 2 ^ (32 * k) = Z
  generalize wval (l.drop (k + 1)) = V
  grind
set_option maxRecDepth 100000 in
set_option maxHeartbeats 600000 in
theorem Btzb (x : Nat) (v : Int) (h0 : v ≠ 0) (hl : (dg v.natAbs).length ≤ 1000000) (w : World) (hT : Tab32 w) (hx : IntB w x v) : Calls Tryz.prog 99 #[.pointer (some ⟨x, 0, none⟩)] w (fun e w' => ∃ t m : Nat, e = .returned (.int .u64 (t : Int)) ∧ v.natAbs = 2 ^ t * (2 * m + 1) ∧ t ≤ 32000000 ∧ w = w') := by
  obtain ⟨A, ca, a0, a1, hra⟩ := hx.rd
  have hxl := World.block_lt_of_cell? _ _ a1
  obtain ⟨l, hl'⟩ : ∃ l, l = dg v.natAbs := ⟨_, rfl⟩
  have hwl : Words l := by rw [hl']; exact words_dg _
  have hvl : wval l = v.natAbs := by rw [hl', wval_dg]
  rw [← hl'] at a1 hra hl
  clear hl' hx a0
  have HW := Lib.hid hwl; have HV := Lib.hid hvl; have HR := Lib.hid hra; have HT := Lib.hid hT; have H0 := Lib.hid h0; clear hwl hvl hra hT h0
  go_enter Tryz.func99, Tryz.ntmps99
  go_wp2
  go_loopw [3] (fun iv wr => ∃ k : Nat, k ≤ l.length ∧ iv = .int .i64 (k : Int) ∧ (∀ j, j < k → l.getD j 0 = 0) ∧ w = wr) (fun iv _ => l.length - (intOf iv).toNat)
  case atStart => exact ⟨0, Nat.zero_le _, rfl, fun j hj => absurd hj (Nat.not_lt_zero _), rfl⟩
  case round =>
    obtain ⟨k, hk, rfl, hzs, rfl⟩ := hrel
    have HZ := Lib.hid hzs; clear hzs
    by_cases hlt : k < l.length
    · obtain ⟨g, rfl, hg, hc⟩ := HR.out.cell hlt
      by_cases hx0 : l.getD k 0 = 0
      · rw [hx0] at hc
        have HZ2 := Lib.hid (show ∀ j, j < k + 1 → l.getD j 0 = 0 from fun j hj => (Nat.lt_succ_iff_lt_or_eq.1 hj).elim (HZ.out j) (fun h => h ▸ hx0))
        clear hx0
        go_wp2
        go_roundw
        case rel => exact ⟨k + 1, hlt, by go_num, HZ2.out, (by first | rfl | trivial)⟩
        case measure => first | (simp [intOf]; done) | (simp [intOf]; omega)
      · obtain ⟨m, hm⟩ := tzb_split HW.out hlt HZ.out hx0
        rw [HV.out] at hm
        have hx32 := HW.out.getD k
        obtain ⟨_, _, hct⟩ := ctz32_split hx0 hx32
        obtain ⟨y, hy⟩ : ∃ y, y = l.getD k 0 := ⟨_, rfl⟩
        rw [← hy] at hc hm hx0 hx32 hct
        have TZ := Lib.hid (fun w hT => bits_tz32 y hx0 hx32 w hT)
        have n0 : ((y : Int) != 0) = true := by rw [bne_iff_ne]; omega
        obtain ⟨c, hc2⟩ : ∃ c, c = Lib.ctz 32 y := ⟨_, rfl⟩
        rw [← hc2] at TZ hm hct
        have HM := Lib.hid hm; clear hc2 hm hy hx0 hx32
        have e1 : IntKind.i64.wrap (32 * (k : Int)) = 32 * (k : Int) := IntWalk.i64_in _ ⟨by omega, by omega⟩
        have e2 : IntKind.i64.wrap (32 * (k : Int) + (c : Int)) = 32 * (k : Int) + (c : Int) := IntWalk.i64_in _ ⟨by omega, by omega⟩
        have e3 : IntKind.u64.wrap (32 * (k : Int) + (c : Int)) = ((32 * k + c : Nat) : Int) := by rw [IntKind.wrap_u64]; omega
        go_wp2_with fail
        refine (TZ.out _ HT.out).mono ?_; rintro e5 w5 ⟨rfl, rfl⟩
        go_wp2
        go_ret
        exact ⟨32 * k + c, m, rfl, HM.out, by omega, rfl⟩
    · obtain rfl : k = l.length := by omega
      exfalso
      have h1 := lo_none l.length HZ.out
      rw [lo_all l (Nat.le_refl _), HV.out] at h1
      exact H0.out (by omega)
end Go.Proofs.YtjmaggfddinbkaaGreatDoor
end

section
namespace Go.Proofs.YtjmaggfddinbkaaGreatDoor
open Go.RowKit
theorem odd_part {n : Int} {t m : Nat} (h : n.natAbs = 2 ^ t * (2 * m + 1)) : ∃ r : Int, n = r * 2 ^ t ∧ r.natAbs = 2 * m + 1 := by
  rcases Int.natAbs_eq n with e | e
  · refine ⟨((2 * m + 1 : Nat) : Int), ?_, Int.natAbs_natCast _⟩
    rw [e, h, Int.natCast_mul, cast_pow, Int.mul_comm]
  · refine ⟨-((2 * m + 1 : Nat) : Int), ?_, by rw [Int.natAbs_neg, Int.natAbs_natCast]⟩
    rw [e, h, Int.natCast_mul, cast_pow, Int.neg_mul, Int.mul_comm]
def OddR (W : World) (n E : Int) (e : Ending) (w' : World) : Prop := ∃ (t m : Nat) (r : Int), n = r * 2 ^ t ∧ r.natAbs = 2 * m + 1 ∧ ExR W r (E + t) e w'
set_option maxRecDepth 100000 in
set_option maxHeartbeats 600000 in
theorem Xodd_zero (E : Int) (g : Nat) (w : World) (hI : IntB w g 0) : Calls Tryz.prog 45 #[.agg #[.pointer (some ⟨g, 0, none⟩), .int .i64 E]] w (ExR w 0 0) := by
  have S1 := Lib.hid (fun w h => Bsign g 0 w h)
  have J := Lib.hid (hI.of (((Within.refl w).alloc (.cells #[.pointer (some ⟨g, 0, none⟩), .int .i64 E] 53)).alloc (.cells #[.pointer none, .int .i64 0] 53)))
  clear hI
  have hm := IntB.made ((w.alloc (.cells #[.pointer (some ⟨g, 0, none⟩), .int .i64 E] 53)).alloc (.cells #[.pointer (some ⟨(w.heap.size + 2), 0, none⟩), .int .i64 0] 53))
  have hs : ((w.alloc (.cells #[.pointer (some ⟨g, 0, none⟩), .int .i64 E] 53)).alloc (.cells #[.pointer (some ⟨(w.heap.size + 2), 0, none⟩), .int .i64 0] 53)).heap.size = w.heap.size + 2 := by simp
  rw [hs] at hm
  have HM := Lib.hid hm; clear hm hs
  go_enter Tryz.func45, Tryz.ntmps45
  go_wp2_with fail
  refine (S1.out _ J.out).mono ?_; rintro e1 w1 ⟨rfl, rfl⟩
  go_wp2
  refine bodyPost_ret (v := .agg #[.pointer (some ⟨(w.heap.size + 2), 0, none⟩), .int .i64 0]) (by simp [results, Tryz.results45, go_sem]) rfl ⟨_, rfl, HM.out, by omega, (by repeat (first | with_reducible exact Within.refl _ | with_reducible assumption | with_reducible refine Within.alloc ?_ _ | with_reducible refine Within.drew ?_ | with_reducible refine Within.drewN ?_ _ | with_reducible refine Within.setCell ?_ (by first | (simp; done) | (simp; omega)) _ | with_reducible refine Within.trans ?_ (by assumption)))⟩
theorem pow_lim {t n K : Nat} (h : 2 ^ t ≤ n) (hl : (dg n).length ≤ K) : t ≤ 32 * K := by
  have h1 := Nat.lt_of_lt_of_le (lt_of_dg n) (Nat.pow_le_pow_right (by decide) hl)
  have h3 : (2 : Nat) ^ t < 2 ^ (32 * K) := by rw [Nat.pow_mul]; exact Nat.lt_of_le_of_lt h h1
  exact Nat.le_of_lt ((Nat.pow_lt_pow_iff_right (by decide)).1 h3)
set_option maxRecDepth 100000 in
set_option maxHeartbeats 600000 in
theorem Xodd (n E : Int) (g : Nat) (h0 : n ≠ 0) (hl : (dg n.natAbs).length ≤ 1000) (hE : -100000 ≤ E ∧ E ≤ 100000) (w : World) (hT : Tab32 w) (hI : IntB w g n) : Calls Tryz.prog 45 #[.agg #[.pointer (some ⟨g, 0, none⟩), .int .i64 E]] w (OddR w n E) := by
  have S1 := Lib.hid (fun w h => Bsign g n w h)
  have TB := Lib.hid (fun w hT h => Btzb g n h0 (Nat.le_trans hl (by decide)) w hT h)
  have J := Lib.hid (hI.of (((Within.refl w).alloc (.cells #[.pointer (some ⟨g, 0, none⟩), .int .i64 E] 53)).alloc (.cells #[.pointer none, .int .i64 0] 53)))
  have HT := Lib.hid (hT.of (((Within.refl w).alloc (.cells #[.pointer (some ⟨g, 0, none⟩), .int .i64 E] 53)).alloc (.cells #[.pointer none, .int .i64 0] 53)))
  have d1 : (n.sign == 0) = false := by rw [beq_eq_false_iff_ne]; intro h; exact h0 (Int.sign_eq_zero_iff_zero.1 h)
  have H0 := Lib.hid h0; have HL := Lib.hid hl; clear hI hT h0 hl
  go_enter Tryz.func45, Tryz.ntmps45
  go_wp2_with fail
  refine (S1.out _ J.out).mono ?_; rintro e1 w1 ⟨rfl, rfl⟩
  go_wp2_with fail
  refine (TB.out _ HT.out J.out).mono ?_; rintro e2 w2 ⟨t, m, rfl, hm, ht, rfl⟩
  obtain ⟨r, hr1, hr2⟩ := odd_part hm
  have HR := Lib.hid (And.intro hr1 hr2)
  have htl : t ≤ 32000 := pow_lim (K := 1000) (by rw [hm]; exact Nat.le_mul_of_pos_right _ (by omega)) HL.out
  have RS := Lib.hid (fun z w hz hx => BrshD z g t n r H0.out hr1 (Nat.le_trans HL.out (by decide)) (by omega) w hz hx)
  have ec : IntKind.i64.wrap (t : Int) = (t : Int) := IntWalk.i64_in _ ⟨by omega, by omega⟩
  have ea : IntKind.i64.wrap (E + (t : Int)) = E + (t : Int) := IntWalk.i64_in _ ⟨by omega, by omega⟩
  clear hr1 hr2 hm ht hE htl
  go_wp2
  refine wp_region_schG (fun W => W.cell? ⟨w.heap.size, 0, none⟩ = some (.pointer (some ⟨g, 0, none⟩)) ∧ W.cell? ⟨w.heap.size, 1, none⟩ = some (.int .i64 E) ∧ W.heap[w.heap.size + 1]? = some (.cells #[.pointer none, .int .i64 0] 53 (0, 0)) ∧ IntB W g n ∧ w.heap.size < W.heap.size ∧ w.heap.size + 1 < W.heap.size ∧ Within w W) 11 (.firm 1 (.firm 2 (.firm 3 (.firm 5 (.firm 6 (.firm 7 (.firm 8 (.firm 9 (.one 0 (.one 4 (.firm 10 (.one 11 .nil)))))))))))) (by kernel_rfl) (by kernel_rfl) ⟨by go_simp, by go_simp, (by have := heap_alloc_new (w.alloc (.cells #[.pointer (some ⟨g, 0, none⟩), .int .i64 E] 53)) (.cells #[.pointer none, .int .i64 0] 53); simpa using this), J.out, by first | (simp; done) | (simp; omega), by first | (simp; done) | (simp; omega), (by repeat (first | with_reducible exact Within.refl _ | with_reducible assumption | with_reducible refine Within.alloc ?_ _ | with_reducible refine Within.drew ?_ | with_reducible refine Within.drewN ?_ _ | with_reducible refine Within.setCell ?_ (by first | (simp; done) | (simp; omega)) _ | with_reducible refine Within.trans ?_ (by assumption)))⟩ ?_
  rintro w0 ⟨c0, c1, hz, hI, l0, l1, hw0⟩
  try simp only [Act.put, List.setIfInBounds_toArray, List.set_cons_zero, List.set_cons_succ]
  apply sch_firm rfl rfl (by repeat (first | with_reducible exact Within.refl _ | with_reducible assumption | with_reducible refine Within.alloc ?_ _ | with_reducible refine Within.drew ?_ | with_reducible refine Within.drewN ?_ _ | with_reducible refine Within.setCell ?_ (by first | (simp; done) | (simp; omega)) _ | with_reducible refine Within.trans ?_ (by assumption)))
  · intro wq hq
    have hcq := hq.cells
    clear hq
    go_simp
    first | rfl | (trace_state; fail)
  try simp only [Act.put, List.setIfInBounds_toArray, List.set_cons_zero, List.set_cons_succ]
  apply sch_firm rfl rfl (by repeat (first | with_reducible exact Within.refl _ | with_reducible assumption | with_reducible refine Within.alloc ?_ _ | with_reducible refine Within.drew ?_ | with_reducible refine Within.drewN ?_ _ | with_reducible refine Within.setCell ?_ (by first | (simp; done) | (simp; omega)) _ | with_reducible refine Within.trans ?_ (by assumption)))
  · intro wq hq
    have hcq := hq.cells
    clear hq
    go_simp
    first | rfl | (trace_state; fail)
  try simp only [Act.put, List.setIfInBounds_toArray, List.set_cons_zero, List.set_cons_succ]
  apply sch_firm rfl rfl (by repeat (first | with_reducible exact Within.refl _ | with_reducible assumption | with_reducible refine Within.alloc ?_ _ | with_reducible refine Within.drew ?_ | with_reducible refine Within.drewN ?_ _ | with_reducible refine Within.setCell ?_ (by first | (simp; done) | (simp; omega)) _ | with_reducible refine Within.trans ?_ (by assumption)))
  · intro wq hq
    have hcq := hq.cells
    clear hq
    go_simp
    first | rfl | (trace_state; fail)
  try simp only [Act.put, List.setIfInBounds_toArray, List.set_cons_zero, List.set_cons_succ]
  apply sch_firm rfl rfl (by repeat (first | with_reducible exact Within.refl _ | with_reducible assumption | with_reducible refine Within.alloc ?_ _ | with_reducible refine Within.drew ?_ | with_reducible refine Within.drewN ?_ _ | with_reducible refine Within.setCell ?_ (by first | (simp; done) | (simp; omega)) _ | with_reducible refine Within.trans ?_ (by assumption)))
  · intro wq hq
    have hcq := hq.cells
    clear hq
    go_simp
    first | rfl | (trace_state; fail)
  try simp only [Act.put, List.setIfInBounds_toArray, List.set_cons_zero, List.set_cons_succ]
  apply sch_firm rfl rfl (by repeat (first | with_reducible exact Within.refl _ | with_reducible assumption | with_reducible refine Within.alloc ?_ _ | with_reducible refine Within.drew ?_ | with_reducible refine Within.drewN ?_ _ | with_reducible refine Within.setCell ?_ (by first | (simp; done) | (simp; omega)) _ | with_reducible refine Within.trans ?_ (by assumption)))
  · intro wq hq
    have hcq := hq.cells
    clear hq
    go_simp
    first | rfl | (trace_state; fail)
  try simp only [Act.put, List.setIfInBounds_toArray, List.set_cons_zero, List.set_cons_succ]
  apply sch_firm rfl rfl (by repeat (first | with_reducible exact Within.refl _ | with_reducible assumption | with_reducible refine Within.alloc ?_ _ | with_reducible refine Within.drew ?_ | with_reducible refine Within.drewN ?_ _ | with_reducible refine Within.setCell ?_ (by first | (simp; done) | (simp; omega)) _ | with_reducible refine Within.trans ?_ (by assumption)))
  · intro wq hq
    have hcq := hq.cells
    clear hq
    go_simp
    first | rfl | (trace_state; fail)
  try simp only [Act.put, List.setIfInBounds_toArray, List.set_cons_zero, List.set_cons_succ]
  apply sch_firm rfl rfl (by repeat (first | with_reducible exact Within.refl _ | with_reducible assumption | with_reducible refine Within.alloc ?_ _ | with_reducible refine Within.drew ?_ | with_reducible refine Within.drewN ?_ _ | with_reducible refine Within.setCell ?_ (by first | (simp; done) | (simp; omega)) _ | with_reducible refine Within.trans ?_ (by assumption)))
  · intro wq hq
    have hcq := hq.cells
    clear hq
    go_simp
    first | rfl | (trace_state; fail)
  try simp only [Act.put, List.setIfInBounds_toArray, List.set_cons_zero, List.set_cons_succ]
  apply sch_firm rfl rfl (by repeat (first | with_reducible exact Within.refl _ | with_reducible assumption | with_reducible refine Within.alloc ?_ _ | with_reducible refine Within.drew ?_ | with_reducible refine Within.drewN ?_ _ | with_reducible refine Within.setCell ?_ (by first | (simp; done) | (simp; omega)) _ | with_reducible refine Within.trans ?_ (by assumption)))
  · intro wq hq
    have hcq := hq.cells
    clear hq
    go_simp
    first | rfl | (trace_state; fail)
  try simp only [Act.put, List.setIfInBounds_toArray, List.set_cons_zero, List.set_cons_succ]
  refine sch_one rfl rfl (fun K hK => ?_)
  go_simp
  refine hK _ _ (fun _ => (by repeat (first | with_reducible exact Within.refl _ | with_reducible assumption | with_reducible refine Within.alloc ?_ _ | with_reducible refine Within.drew ?_ | with_reducible refine Within.drewN ?_ _ | with_reducible refine Within.setCell ?_ (by first | (simp; done) | (simp; omega)) _ | with_reducible refine Within.trans ?_ (by assumption)))) ?_
  clear hK K
  try simp only [Act.put, List.setIfInBounds_toArray, List.set_cons_zero, List.set_cons_succ]
  refine sch_one rfl rfl (fun K hK => ?_)
  go_simp
  refine (RS.out _ _ (by exact (IntB.made w0).ty) (IntB.of hI (by repeat (first | with_reducible exact Within.refl _ | with_reducible assumption | with_reducible refine Within.alloc ?_ _ | with_reducible refine Within.drew ?_ | with_reducible refine Within.drewN ?_ _ | with_reducible refine Within.setCell ?_ (by first | (simp; done) | (simp; omega)) _ | with_reducible refine Within.trans ?_ (by assumption))))).mono ?_; rintro e5 w5 ⟨rfl, hJ, hG⟩
  have hv5 : Within w0 w5 := Within.grown (by repeat (first | with_reducible exact Within.refl _ | with_reducible assumption | with_reducible refine Within.alloc ?_ _ | with_reducible refine Within.drew ?_ | with_reducible refine Within.drewN ?_ _ | with_reducible refine Within.setCell ?_ (by first | (simp; done) | (simp; omega)) _ | with_reducible refine Within.trans ?_ (by assumption))) hG (by simp)
  have hz5 := (hv5.block _ l1).trans hz
  obtain ⟨y0, y1, yf⟩ := ex_cells hz5
  have yl := Nat.lt_of_lt_of_le l1 hv5.sizes
  refine hK _ _ (fun _ => (by repeat (first | with_reducible exact Within.refl _ | with_reducible assumption | with_reducible refine Within.alloc ?_ _ | with_reducible refine Within.drew ?_ | with_reducible refine Within.drewN ?_ _ | with_reducible refine Within.setCell ?_ (by first | (simp; done) | (simp; omega)) _ | with_reducible refine Within.trans ?_ (by assumption)))) ?_
  clear hK K
  try simp only [Act.put, List.setIfInBounds_toArray, List.set_cons_zero, List.set_cons_succ]
  apply sch_firm rfl rfl (by repeat (first | with_reducible exact Within.refl _ | with_reducible assumption | with_reducible refine Within.alloc ?_ _ | with_reducible refine Within.drew ?_ | with_reducible refine Within.drewN ?_ _ | with_reducible refine Within.setCell ?_ (by first | (simp; done) | (simp; omega)) _ | with_reducible refine Within.trans ?_ (by assumption)))
  · intro wq hq
    have hcq := hq.cells
    clear hq
    go_simp
    first | rfl | (trace_state; fail)
  try simp only [Act.put, List.setIfInBounds_toArray, List.set_cons_zero, List.set_cons_succ]
  refine sch_one rfl rfl (fun K hK => ?_)
  go_simp
  refine hK _ _ (fun h => absurd h (by decide)) ?_
  clear hK K
  try simp only [Act.put, List.setIfInBounds_toArray, List.set_cons_zero, List.set_cons_succ]
  refine sch_nil ?_
  obtain ⟨r0, r1, rI⟩ := ex_set (E := E + t) hz5 hJ (show w0.heap.size ≠ w.heap.size + 1 by omega)
  have rl : w.heap.size + 1 < w5.heap.size := yl
  have RO := Lib.hid rI; clear rI
  go_wp2
  refine bodyPost_ret (v := .agg #[.pointer (some ⟨w0.heap.size, 0, none⟩), .int .i64 (E + t)]) (by simp [results, Tryz.results45, go_sem, r0, r1, rl]) rfl ⟨t, m, r, HR.out.1, HR.out.2, w0.heap.size, rfl, RO.out, hw0.sizes, ?_⟩
  exact (((hw0.trans hv5).setCell (by show _ ≤ w.heap.size + 1; omega) _).setCell (by show _ ≤ w.heap.size + 1; omega) _)
end Go.Proofs.YtjmaggfddinbkaaGreatDoor
end

section
namespace Go.Proofs.YtjmaggfddinbkaaGreatDoor
open Go.RowKit
set_option maxRecDepth 100000 in
set_option maxHeartbeats 600000 in
theorem Xsum (a b : Nat) (ha : a < 18446744073709551616) (hb : b < 18446744073709551616) (w : World) : Calls Tryz.prog 29 #[.float .f64 a, .float .f64 b] w (ExW 1074 1100 (P64.wholeI a + P64.wholeI b) w) := by
  have CA := Lib.hid (fun w => XofW a ha w)
  have CB := Lib.hid (fun w => XofW b hb w)
  clear ha hb
  go_enter Tryz.func29, Tryz.ntmps29
  go_wp2_with fail
  refine (CA.out _).mono ?_; rintro e1 w1 ⟨g1, n1, E1, rfl, hI1, a1, a2, hv1, hb1⟩
  go_wp2_with fail
  refine (CB.out _).mono ?_; rintro e2 w2 ⟨g2, n2, E2, rfl, hI2, b1, b2, hv2, hb2⟩
  have l1 : (dg n1.natAbs).length ≤ 900 := Nat.le_trans (val_len n1 E1 1074) (by rw [hv1]; exact Nat.le_trans (whole_len a) (by decide))
  have l2 : (dg n2.natAbs).length ≤ 900 := Nat.le_trans (val_len n2 E2 1074) (by rw [hv2]; exact Nat.le_trans (whole_len b) (by decide))
  have CC := Lib.hid (Xadd n1 n2 E1 E2 g1 g2 1074 1100 (by decide) (by decide) a1 a2 b1 b2 l1 l2 w2 (hI1.of hb2) hI2)
  rw [hv1, hv2] at CC
  go_wp2_with fail
  refine CC.out.mono ?_; rintro e4 w4 ⟨g4, n4, E4, rfl, hI4, c1, c2, hv4, hb4⟩
  have hx : Within (w.alloc (.cells #[.pointer none, .int .i64 0] 53)) w4 := (hb1.trans hb2).trans hb4
  have hz5 : w4.heap[w.heap.size]? = some (.cells #[.pointer none, .int .i64 0] 53 (0, 0)) := (hx.block _ (by simp)).trans (heap_alloc_new w _)
  have hg4 := ne_ex hI4 hz5
  obtain ⟨y0, y1, yf⟩ := ex_cells hz5
  have yl : w.heap.size < w4.heap.size := World.block_lt_of_cell? _ _ y0
  obtain ⟨r0, r1, rI⟩ := ex_set (E := E4) hz5 hI4 hg4
  go_wp2
  refine bodyPost_ret (v := .agg #[.pointer (some ⟨g4, 0, none⟩), .int .i64 E4]) (by simp [results, Tryz.results29, go_sem, r0, r1, yl]) rfl ⟨g4, n4, E4, rfl, rI, c1, c2, hv4, ?_⟩
  exact ((((Within.refl w).alloc _).trans hx).setCell (by show _ ≤ w.heap.size; omega) _).setCell (by show _ ≤ w.heap.size; omega) _
end Go.Proofs.YtjmaggfddinbkaaGreatDoor
end

section
namespace Go.Proofs.YtjmaggfddinbkaaGreatDoor
open Go.RowKit
@[go_sem] theorem mx_bits64 (a : Nat) (w : World) : (callFunc 63 #[.float .f64 a]).run Tryz.prog w = .ok (.value (.int .u64 a)) w := by kernel_rfl
@[go_sem] theorem mx_from64 (a : Int) (w : World) : (callFunc 68 #[.int .u64 a]).run Tryz.prog w = .ok (.value (.float .f64 a.toNat)) w := by kernel_rfl
theorem key_pos {r : Nat} (h : r < 9223372036854775808) : Fp.key64 r = r := by unfold Fp.key64; rw [if_neg (by omega), Nat.mod_eq_of_lt h]
theorem notnan {r : Nat} (h : r % 9223372036854775808 ≤ 9218868437227405312) : Fp.isNaN64 r = false := decide_eq_false (by omega)
theorem lt_small {r : Nat} (h : r < 9218868437227405312) : (FloatKind.f64.format.order r 4503599627370496 == some .lt) = decide (r < 4503599627370496) := by
  show (Ieee.double.order r 4503599627370496 == some .lt) = _
  rw [Fp.lt64 _ _ (notnan (by omega)) (notnan (by decide)), key_pos (by omega), key_pos (by decide)]
  exact decide_eq_decide.2 (by omega)
theorem eq_zero {r : Nat} (h : r % 9223372036854775808 ≤ 9218868437227405312) : (FloatKind.f64.format.order r 0 == some .eq) = decide (r % 9223372036854775808 = 0) := by
  show (Ieee.double.order r 0 == some .eq) = _
  rw [Fp.eq64 _ _ (notnan h) (notnan (by decide))]
  unfold Fp.key64
  refine decide_eq_decide.2 ?_
  split <;> omega
theorem gt_max {r : Nat} (h : r < 9223372036854775808) : (FloatKind.f64.format.order r 9218868437227405311 == some .gt) = decide (r = 9218868437227405312) := by
  show (Ieee.double.order r 9218868437227405311 == some .gt) = _
  by_cases hn : r ≤ 9218868437227405312
  · rw [Fp.gt64 _ _ (notnan (by omega)) (notnan (by decide)), key_pos h, key_pos (by decide)]
    exact decide_eq_decide.2 (by omega)
  · rw [Fp.order64_nan _ _ (.inl (decide_eq_true (by omega))), decide_eq_false (by omega)]; rfl
theorem ne_self {a : Nat} : (FloatKind.f64.format.order a a != some .eq) = decide (9218868437227405312 < a % 9223372036854775808) := by
  show (!(Ieee.double.order a a == some .eq)) = _
  rw [Fp.order64_self]; unfold Fp.isNaN64; simp
set_option maxRecDepth 100000 in
set_option maxHeartbeats 600000 in
theorem m_abs (a : Nat) (ha : a < 18446744073709551616) (w : World) : Calls Tryz.prog 31 #[.float .f64 a] w fun e w' => e = .returned (.float .f64 (a % 9223372036854775808)) ∧ w = w' := by
  have h := u64_unsign a ha
  generalize a % 9223372036854775808 = m at *
  clear ha
  go_enter Tryz.func31, Tryz.ntmps31
  go_wp2
  go_ret
  exact ⟨rfl, rfl⟩
set_option maxRecDepth 100000 in
set_option maxHeartbeats 600000 in
theorem m_isinf (a : Nat) (ha : a < 18446744073709551616) (w : World) : Calls Tryz.prog 86 #[.float .f64 a, .int .i64 0] w fun e w' => e = .returned (.bool (decide (a % 9223372036854775808 = 9218868437227405312))) ∧ w = w' := by
  have HA := Lib.hid (fun w => m_abs a ha w)
  have h := gt_max (r := a % 9223372036854775808) (by omega)
  rw [← h]
  generalize a % 9223372036854775808 = m at *
  clear ha h
  go_enter Tryz.func86, Tryz.ntmps86
  go_wp2_with fail
  refine (HA.out _).mono ?_; rintro e1 w1 ⟨rfl, rfl⟩
  go_wp2
  go_ret
  exact ⟨rfl, rfl⟩
set_option maxRecDepth 100000 in
set_option maxHeartbeats 600000 in
theorem m_isnan (a : Nat) (w : World) : Calls Tryz.prog 139 #[.float .f64 a] w fun e w' => e = .returned (.bool (decide (9218868437227405312 < a % 9223372036854775808))) ∧ w = w' := by
  have h := ne_self (a := a)
  rw [← h]
  clear h
  go_enter Tryz.func139, Tryz.ntmps139
  go_wp2
  go_ret
  exact ⟨rfl, rfl⟩
set_option maxRecDepth 100000 in
set_option maxHeartbeats 600000 in
theorem m_norm_high (r : Nat) (h : 4503599627370496 ≤ r) (h2 : r < 9218868437227405312) (w : World) : Calls Tryz.prog 158 #[.float .f64 r] w fun e w' => e = .returned (.tuple #[.float .f64 r, .int .i64 0]) ∧ w = w' := by
  have HA := Lib.hid (fun w => m_abs r (by omega) w)
  rw [Nat.mod_eq_of_lt (show r < 9223372036854775808 by omega)] at HA
  have hl := lt_small h2
  rw [decide_eq_false (by omega)] at hl
  clear h h2
  go_enter Tryz.func158, Tryz.ntmps158
  go_wp2_with fail
  refine (HA.out _).mono ?_; rintro e1 w1 ⟨rfl, rfl⟩
  go_wp2
  go_ret2
  exact ⟨rfl, rfl⟩
theorem field_of_i (z : Nat) (h : z < 9218868437227405312) : bits .and .i64 ((z / 4503599627370496 : Nat) : Int) 2047 = ((z / 4503599627370496 : Nat) : Int) := by
  obtain ⟨q, hq⟩ : ∃ q, z / 4503599627370496 = q := ⟨_, rfl⟩
  have hl : q < 2048 := by omega
  rw [hq]
  have : ∀ n : Fin 2048, bits .and .i64 ((n.val : Nat) : Int) 2047 = ((n.val : Nat) : Int) := by decide +kernel
  exact this ⟨q, hl⟩
theorem frac_of (z : Nat) (h : z < 9218868437227405312) : bits .andNot .u64 (z : Int) 9218868437227405312 = ((z % 4503599627370496 : Nat) : Int) := by
  rw [show (9218868437227405312 : Int) = ((9218868437227405312 : Nat) : Int) from rfl, u64_andNot_nat z 9218868437227405312 (by omega) (by decide)]
  congr 1
  apply Nat.eq_of_testBit_eq
  intro i
  rw [show 18446744073709551615 - 9218868437227405312 = 2 ^ 63 + (2 ^ 52 - 1) by decide, show (4503599627370496 : Nat) = 2 ^ 52 by decide, Nat.testBit_and, Nat.testBit_mod_two_pow]
  by_cases h1 : i < 63
  · have k : ∀ j, j < 63 → Nat.testBit (2 ^ 63 + (2 ^ 52 - 1)) j = decide (j < 52) := by decide +kernel
    rw [k i h1, Bool.and_comm]
  · have : z.testBit i = false := Nat.testBit_lt_two_pow (Nat.lt_of_lt_of_le h (Nat.le_trans (show 9218868437227405312 ≤ 2 ^ 63 by decide) (Nat.pow_le_pow_right (by decide) (by omega))))
    rw [this]; simp
theorem join_of (q x : Nat) (hq : q < 2048) (hx : x < 4503599627370496) : bits .or .u64 (x : Int) ((q * 4503599627370496 : Nat) : Int) = ((q * 4503599627370496 + x : Nat) : Int) := by
  rw [u64_or_nat x (q * 4503599627370496) (by omega) (by omega), Nat.or_comm, nat_join 52 (q * 4503599627370496) x (by omega) hx]
end Go.Proofs.YtjmaggfddinbkaaGreatDoor
end

section
namespace Go.Proofs.YtjmaggfddinbkaaGreatDoor
open Go.RowKit
set_option maxRecDepth 100000 in
set_option maxHeartbeats 600000 in
theorem m_ldexp_norm (z n : Nat) (k : Int) (h : 4503599627370496 ≤ z) (hz : z < 9218868437227405312) (hn : (n : Int) = k + (z / 4503599627370496 : Nat)) (h1 : 1 ≤ n) (h2 : n ≤ 2046) (hm : Ieee.double.mul 4607182418800017408 (n * 4503599627370496 + z % 4503599627370496) = some (n * 4503599627370496 + z % 4503599627370496)) (w : World) : Calls Tryz.prog 126 #[.float .f64 z, .int .i64 k] w fun e w' => e = .returned (.float .f64 (n * 4503599627370496 + z % 4503599627370496)) ∧ w = w' := by
  have HI := Lib.hid (fun w => m_isinf z (by omega) w)
  have HN := Lib.hid (fun w => m_isnan z w)
  rw [decide_eq_false (by omega)] at HI HN
  have hz0 := eq_zero (r := z) (by omega)
  rw [decide_eq_false (by omega)] at hz0
  have NO := Lib.hid (fun w => m_norm_high z h hz w)
  have f1 := field_of_i z hz
  have f2 := frac_of z hz
  have f3 := join_of n (z % 4503599627370496) (by omega) (Nat.mod_lt _ (by decide))
  have s1 : ((z : Int) / 4503599627370496) = ((z / 4503599627370496 : Nat) : Int) := by omega
  have tq : z / 4503599627370496 < 2047 := by omega
  have lq : 0 < z / 4503599627370496 := by omega
  generalize z / 4503599627370496 = q at *
  have kl : -3000 ≤ k := by omega
  have ku : k ≤ 3000 := by omega
  obtain ⟨y, hy⟩ : ∃ y, n * 4503599627370496 + z % 4503599627370496 = y := ⟨_, rfl⟩
  have hnl : n < 2047 := by omega
  have gs : IntKind.u64.wrap ((n : Int) * 4503599627370496) = ((n * 4503599627370496 : Nat) : Int) := by rw [IntKind.wrap_u64]; omega
  have gn : IntKind.u64.wrap (n : Int) = (n : Int) := by rw [IntKind.wrap_u64]; omega
  have d1 : decide (k + ((q : Int) - 1023) < -1075) = false := decide_eq_false (by omega)
  have d2 : decide (k + ((q : Int) - 1023) > 1023) = false := decide_eq_false (by omega)
  have d3 : decide (k + ((q : Int) - 1023) < -1022) = false := decide_eq_false (by omega)
  have g5 : k + ((q : Int) - 1023) + 1023 = (n : Int) := by omega
  rw [hy]
  rw [hy] at f3 hm
  generalize z % 4503599627370496 = x at *
  generalize n * 4503599627370496 = nb at *
  have hf := fun t P w => run_float_arith (P := P) w .mul t .f64 _ _ _ hm
  clear hm hy hn h1 h2 h hz
  go_enter Tryz.func126, Tryz.ntmps126
  go_wp2_with fail
  refine (HI.out _).mono ?_; rintro e1 w1 ⟨rfl, rfl⟩
  go_wp2_with fail
  refine (HN.out _).mono ?_; rintro e2 w2 ⟨rfl, rfl⟩
  go_wp2_with fail
  refine (NO.out _).mono ?_; rintro e3 w3 ⟨rfl, rfl⟩
  go_wp2
  go_ret
  exact ⟨rfl, rfl⟩
theorem m_ldexp {z k : _} {r : Nat} (H : ∀ w, Calls Tryz.prog 126 #[.float .f64 z, .int .i64 k] w fun e w' => e = .returned (.float .f64 r) ∧ w = w') (w : World) : Calls Tryz.prog 83 #[.float .f64 z, .int .i64 k] w fun e w' => e = .returned (.float .f64 r) ∧ w = w' := by
  have HH := Lib.hid H
  clear H
  go_enter Tryz.func83, Tryz.ntmps83
  go_wp2_with fail
  refine (HH.out _).mono ?_; rintro e1 w1 ⟨rfl, rfl⟩
  go_wp2
  go_ret
  exact ⟨rfl, rfl⟩
/-! in amounts -/
theorem is_pos {r n : Nat} (h : r < 9218868437227405312) (hm : Fp.mag Ieee.double r = n) : Fp.Is Ieee.double r false n := by
  have hr : Fp.rg Ieee.double r = r := by rw [Fp.rg64, Nat.mod_eq_of_lt (by omega)]
  refine ⟨Nat.lt_trans h (by decide), by rw [hr, Fp.dI]; exact h, ?_, by rw [hr, hm]⟩
  rw [Fp.sg64, Nat.div_eq_of_lt (by omega)]; rfl
theorem num_pos {n : Nat} : Fp.num Ieee.double false n = Fp.grid Ieee.double n 0 := rfl
theorem pos_rung {r n : Nat} (hm : Fp.mag Ieee.double r = n) : Fp.num Ieee.double false n = r := by
  rw [num_pos, ← hm, Fp.grid_of_mag Ieee.double Fp.dF]
theorem one_is : Fp.mag Ieee.double 4607182418800017408 = 2 ^ Fp.deep Ieee.double := by decide +kernel
theorem mul_pos {a b p r : Nat} (ha : a < 9218868437227405312) (hb : b < 9218868437227405312) (hr : r < 9218868437227405312) (hp : Fp.mag Ieee.double r = p) (h : Fp.mag Ieee.double a * Fp.mag Ieee.double b = p * 2 ^ Fp.deep Ieee.double) : Ieee.double.mul a b = some r := by
  have h1 := Fp.mul_is Ieee.double Fp.dL0 (is_pos ha rfl) (is_pos hb rfl) h (hp ▸ Fp.rep_mag Ieee.double Fp.dF (by rw [Fp.dI]; exact hr))
  rw [h1]
  exact congrArg some (pos_rung hp)
theorem one_mul {r : Nat} (h : r < 9218868437227405312) : Ieee.double.mul 4607182418800017408 r = some r :=
  mul_pos (by decide) h h rfl (by rw [one_is, Nat.mul_comm])
end Go.Proofs.YtjmaggfddinbkaaGreatDoor
end

section
namespace Go.Proofs.YtjmaggfddinbkaaGreatDoor
open Go.RowKit
theorem pow_rung {n : Nat} (h1 : 1 ≤ n) (h2 : n ≤ 2046) : n * 4503599627370496 < 9218868437227405312 ∧ Fp.mag Ieee.double (n * 4503599627370496) = 2 ^ (n + 51) := by
  refine ⟨by omega, ?_⟩
  unfold Fp.mag
  rw [Fp.dB, if_neg (by omega), Nat.mul_mod_left, Nat.add_zero, Nat.mul_div_cancel _ (by decide), ← pow52, ← Nat.pow_add, show 52 + (n - 1) = n + 51 by omega]
theorem ldexp_one (k : Nat) (h : k ≤ 1023) (w : World) : Calls Tryz.prog 83 #[.float .f64 4607182418800017408, .int .i64 (k : Int)] w fun e w' => e = .returned (.float .f64 ((k + 1023) * 4503599627370496)) ∧ w = w' := by
  have h0 := pow_rung (n := k + 1023) (by omega) (by omega)
  have := m_ldexp (fun w => m_ldexp_norm 4607182418800017408 (k + 1023) (k : Int) (by decide) (by decide) (by omega) (by omega) (by omega) (by rw [show 4607182418800017408 % 4503599627370496 = 0 by decide, Nat.add_zero]; exact one_mul h0.1) w) w
  rwa [show 4607182418800017408 % 4503599627370496 = 0 by decide, Nat.add_zero] at this
def belowB (x k : Nat) : Bool := finW x && decide ((Fp.un Ieee.double x).natAbs ≤ 2 ^ (k + 1074))
theorem eq_self_fin {x : Nat} : (FloatKind.f64.format.order x x == some .eq) = decide (x % 9223372036854775808 ≤ 9218868437227405312) := by
  have h := c_self (a := x)
  rw [bne] at h
  cases hb : (FloatKind.f64.format.order x x == some .eq)
  · rw [hb] at h; have := of_decide_eq_true h.symm; rw [decide_eq_false (by omega)]
  · rw [hb] at h; have := of_decide_eq_false h.symm; rw [decide_eq_true (by omega)]
theorem le_pow {x k : Nat} (hk : k ≤ 1023) (h : x % 9223372036854775808 < 9218868437227405312) : (FloatKind.f64.format.order (x % 9223372036854775808) ((k + 1023) * 4503599627370496) == some .lt || FloatKind.f64.format.order (x % 9223372036854775808) ((k + 1023) * 4503599627370496) == some .eq) = decide ((Fp.un Ieee.double x).natAbs ≤ 2 ^ (k + 1074)) := by
  have h0 := pow_rung (n := k + 1023) (by omega) (by omega)
  rw [c_le (by omega) (by omega), un_pos (by omega), un_pos (by omega), h0.2, un_abs, Fp.rg64, show k + 1023 + 51 = k + 1074 by omega]
  generalize 2 ^ (k + 1074) = P
  exact decide_eq_decide.2 (by omega)
set_option maxRecDepth 100000 in
set_option maxHeartbeats 600000 in
theorem rfin4 (x : Nat) (hx : x < 18446744073709551616) (w : World) : Calls Tryz.prog 28 #[.float .f64 x] w fun e w' => e = .returned (.bool (finW x)) ∧ Within w w' := by
  have CI := Lib.hid (fun w => m_isinf x hx w)
  have he := eq_self_fin (x := x)
  unfold finW
  by_cases h1 : x % 9223372036854775808 = 9218868437227405312
  · rw [decide_eq_false (by omega)]
    rw [decide_eq_true h1] at CI
    clear he h1 hx
    go_enter Tryz.func28, Tryz.ntmps28
    go_wp2_with fail
    refine (CI.out _).mono ?_; rintro e1 w1 ⟨rfl, rfl⟩
    go_wp2
    go_ret
    exact ⟨rfl, Within.refl _⟩
  · rw [decide_eq_false h1] at CI
    have hq : decide (x % 9223372036854775808 ≤ 9218868437227405312) = decide (x % 9223372036854775808 < 9218868437227405312) := decide_eq_decide.2 (by omega)
    rw [hq] at he
    obtain ⟨b, hb⟩ : ∃ b, b = decide (x % 9223372036854775808 < 9218868437227405312) := ⟨_, rfl⟩
    rw [← hb] at he ⊢
    clear hb hq h1 hx
    go_enter Tryz.func28, Tryz.ntmps28
    go_wp2_with fail
    refine (CI.out _).mono ?_; rintro e1 w1 ⟨rfl, rfl⟩
    go_wp2
    go_ret
    exact ⟨rfl, Within.refl _⟩
set_option maxRecDepth 100000 in
set_option maxHeartbeats 600000 in
theorem below_any (x k : Nat) (hx : x < 18446744073709551616) (hk : k ≤ 1023) (w : World) : Calls Tryz.prog 26 #[.float .f64 x, .int .i64 (k : Int)] w fun e w' => e = .returned (.bool (belowB x k)) ∧ Within w w' := by
  have CF := Lib.hid (fun w => rfin4 x hx w)
  have CA := Lib.hid (fun w => m_abs x hx w)
  have CL := Lib.hid (fun w => ldexp_one k hk w)
  unfold belowB
  cases hf : finW x
  · rw [Bool.false_and]
    rw [hf] at CF
    clear hf hk hx
    go_enter Tryz.func26, Tryz.ntmps26
    go_wp2_with fail
    refine (CF.out _).mono ?_; rintro e1 w1 ⟨rfl, hb1⟩
    go_wp2
    go_ret
    exact ⟨rfl, hb1⟩
  · rw [Bool.true_and]
    rw [hf] at CF
    have hl := le_pow hk (of_decide_eq_true hf)
    obtain ⟨y, hy⟩ : ∃ y, y = x % 9223372036854775808 := ⟨_, rfl⟩
    obtain ⟨r, hr⟩ : ∃ r, r = (k + 1023) * 4503599627370496 := ⟨_, rfl⟩
    obtain ⟨B, hB⟩ : ∃ B, B = decide ((Fp.un Ieee.double x).natAbs ≤ 2 ^ (k + 1074)) := ⟨_, rfl⟩
    rw [← hy, ← hr, ← hB] at hl
    rw [← hy] at CA
    rw [← hr] at CL
    rw [← hB]
    clear hy hr hB hf hk hx
    go_enter Tryz.func26, Tryz.ntmps26
    go_wp2_with fail
    refine (CF.out _).mono ?_; rintro e1 w1 ⟨rfl, hb1⟩
    go_wp2_with fail
    refine (CA.out _).mono ?_; rintro e2 w2 ⟨rfl, rfl⟩
    go_wp2_with fail
    refine (CL.out _).mono ?_; rintro e3 w3 ⟨rfl, rfl⟩
    go_wp2
    go_ret
    exact ⟨rfl, hb1⟩
end Go.Proofs.YtjmaggfddinbkaaGreatDoor
end

section
namespace Go.Proofs.YtjmaggfddinbkaaGreatDoor
theorem pow_rep (n k : Nat) (h : n ≤ 9007199254740992) : RepZ ((n * 2 ^ k : Nat) : Int) := ⟨n, k, by rw [Int.natCast_mul, cast_pow], by rw [Int.natAbs_natCast]; exact h⟩
theorem rn_pow {z : Int} (n k : Nat) (hn : n ≤ 9007199254740992) (h : z.natAbs ≤ n * 2 ^ k) : (rn z).natAbs ≤ n * 2 ^ k := by
  have := rn_amt (pow_rep n k hn) (z := z) (by rw [Int.natAbs_natCast]; exact h)
  rwa [Int.natAbs_natCast] at this
theorem spl_bound {A : Int} (h : RepZ A) : (splL A).natAbs ≤ A.natAbs ∧ (splH A).natAbs ≤ 2 * A.natAbs ∧ splH A + splL A = A := by
  by_cases h0 : A = 0
  · subst h0
    obtain ⟨h1, h2⟩ := spl_zero
    rw [h1, h2]
    exact ⟨by decide, by decide, rfl⟩
  obtain ⟨a, j, u, ha, a1, a2⟩ := norm_of h h0
  obtain ⟨hh, l, e1, e2, e3, _, n1, n2⟩ := spl_norm a1 a2
  obtain ⟨s1, s2⟩ := spl_shift A j
  obtain ⟨t1, t2⟩ := spl_shift a u
  rw [ha, t1, e1] at s1
  rw [ha, t2, e2] at s2
  have hj := Nat.two_pow_pos j
  have hu := Nat.two_pow_pos u
  have c0 : A.natAbs * 2 ^ j = a.natAbs * 2 ^ u := by rw [← natAbs_mul_pow, ha, natAbs_mul_pow]
  have c1 : (splH A).natAbs * 2 ^ j = hh.natAbs * 2 ^ u := by rw [← natAbs_mul_pow, ← s1, natAbs_mul_pow]
  have c2 : (splL A).natAbs * 2 ^ j = l.natAbs * 2 ^ u := by rw [← natAbs_mul_pow, ← s2, natAbs_mul_pow]
  have k1 : (splL A).natAbs * 2 ^ j ≤ A.natAbs * 2 ^ j := by rw [c2, c0]; exact Nat.mul_le_mul_right _ (by omega)
  have k2 : (splH A).natAbs * 2 ^ j ≤ (2 * A.natAbs) * 2 ^ j := by rw [c1, Nat.mul_assoc, c0, ← Nat.mul_assoc]; exact Nat.mul_le_mul_right _ (by omega)
  refine ⟨Nat.le_of_mul_le_mul_right k1 hj, Nat.le_of_mul_le_mul_right k2 hj, eq_of_shift (j := j) ?_⟩
  rw [Int.add_mul, ← s1, ← s2, ← Int.add_mul, e3, ha]
theorem halC_fwd {u : Option Nat} {A : Int} (hu : Fz u A) {k : Nat} (hk : k + 29 ≤ Fp.dtop) (hA : A.natAbs ≤ 2 ^ k) :
    Fz (halC u) (splC A) ∧ (splC A).natAbs ≤ 134217729 * 2 ^ k := by
  have hb : (splC A).natAbs ≤ 134217729 * 2 ^ k := by
    unfold splC
    exact rn_pow 134217729 k (by decide) (by rw [Int.natAbs_mul]; exact Nat.mul_le_mul_left _ hA)
  have hlim : 536870912 * 2 ^ k ≤ 2 ^ Fp.dtop := by
    have := Nat.pow_le_pow_right (n := 2) (by decide) hk
    rw [Nat.pow_add] at this
    have e : (2 : Nat) ^ 29 = 536870912 := by decide
    rw [e] at this
    omega
  have lim : ∀ n : Nat, n < 536870912 * 2 ^ k → n < 2 ^ Fp.dtop := fun n h => Nat.lt_of_lt_of_le h hlim
  clear hlim hk
  have hp := Nat.two_pow_pos k
  refine ⟨mul_fz (P := 134217729 * A) splitter_fz hu (by rw [Int.mul_right_comm]) ?_, hb⟩
  exact lim _ (Nat.lt_of_le_of_lt (show (rn (134217729 * A)).natAbs ≤ 134217729 * 2 ^ k from hb) (by omega))
theorem hal_fwd {u : Option Nat} {A : Int} (hu : Fz u A) {k : Nat} (hk : k + 29 ≤ Fp.dtop) (hA : A.natAbs ≤ 2 ^ k) : Fz (halH u) (splH A) ∧ Fz (halL u) (splL A) := by
  obtain ⟨fC, bC⟩ := halC_fwd hu hk hA
  have hlim : 536870912 * 2 ^ k ≤ 2 ^ Fp.dtop := by
    have := Nat.pow_le_pow_right (n := 2) (by decide) hk
    rw [Nat.pow_add] at this
    have e : (2 : Nat) ^ 29 = 536870912 := by decide
    rw [e] at this
    omega
  have lim : ∀ n : Nat, n < 536870912 * 2 ^ k → n < 2 ^ Fp.dtop := fun n h => Nat.lt_of_lt_of_le h hlim
  clear hlim hk
  have hp := Nat.two_pow_pos k
  obtain ⟨b1, b2, _⟩ := spl_bound hu.rep
  have bD : (rn (splC A - A)).natAbs ≤ 134217730 * 2 ^ k := rn_pow 134217730 k (by decide) (by omega)
  have fD : Fz (fop .sub (halC u) u) (rn (splC A - A)) := sub_iff.2 ⟨_, _, fC, hu, rfl, lim _ (by omega)⟩
  have fH : Fz (halH u) (splH A) := sub_iff.2 ⟨_, _, fC, fD, rfl, lim _ (by omega)⟩
  exact ⟨fH, sub_iff.2 ⟨_, _, hu, fH, rfl, lim _ (by omega)⟩⟩
end Go.Proofs.YtjmaggfddinbkaaGreatDoor
end
