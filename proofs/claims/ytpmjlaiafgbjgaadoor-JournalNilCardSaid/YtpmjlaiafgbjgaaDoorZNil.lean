/- The card of JournalNil: whatever the input, the call returns true and the input reads as it did; the format holds what the program's text lays. -/
import Derived.RangeFuncNested
import Derived.RangeFuncBound
import Derived.RangeFuncCalls
import Derived.RangeFuncLeaves
import Derived.OwnWalkIn
import Derived.Shelf.Abstract
import Derived.Shelf.RegionOpen
import Derived.TacticsInMore
import Derived.LoopNIn
import Derived.LoopIn
import Derived.RangeFuncBox
import Derived.Test.YtpmjlaiafgbjgaaDoorCards
import Derived.Test.YtpmjlaiafgbjgaaDoorTie
import Derived.WalkKit
import Derived.ProofKit
import Derived.OpenShut
import Derived.ShutString
import Derived.ChangeOld
import Derived.ChangeSlices
import Derived.Below
import Derived.Carry
import Derived.SizedLaws
import Derived.Deep.DeepHandedRow
import Derived.Deep.Strs
import Derived.Lib.LaidTab
import Derived.Lib.SmallJoins
import Derived.Deep.Slices
import Derived.Test.YtpmjlaiafgbjgaaDoorK1
import Derived.Test.YtpmjlaiafgbjgaaDoorK2
import Derived.Test.YtpmjlaiafgbjgaaDoorK5
import Derived.Test.YtpmjlaiafgbjgaaDoorK7
set_option linter.unusedVariables false
set_option linter.unusedSimpArgs false
section
namespace Go.Proofs.YtpmjlaiafgbjgaaDoor
open Go.RowKit

section
variable {F : Fence} {n : Nat} {P : Program}
/-- what an iterator owes whose items lie in memory: at each yield T holds of the item; Kp is what a round keeps -/
def SeqT {α : Type} (F : Fence) (n : Nat) (P : Program) (g : Nat) (lb : Array Value) (encs : α → Array Value) (Kp : World → World → Prop) (T : α → World → Prop) (S : List α → Prop) (N : Nat) (w : World) : Prop :=
  ∀ (l : Nat) (J : List α → World → Prop) (W : World), Below w.heap.size w W → AbidesFrom W.heap.size J →
    (∀ pre x W1, J pre W1 → T x W1 → pre.length < N → YieldAt F (n - 1) P l (encs x) W1 fun e W' => e = .returned (.bool true) ∧ J (pre ++ [x]) W' ∧ Kp W1 W') →
    J [] W → CallsIn F n P g (#[.func (.yield l) #[] #[]] ++ lb) W fun e W' => (∃ v, e = .returned v) ∧ ∃ xs, S xs ∧ J xs W'
/-- how a round ends: it goes on -/
def goesOn (Q : World → Prop) : Exit → Act → World → Prop
  | .normal, _, W => Q W
  | _, _, _ => False
/-- the loop's own record -/
def loopRec (fn : FuncId) (a : Act) (ps : Array Tmp) (assign body : Code) (D : Nat) (st : LoopState) (pe : Option Code) : Loop := { state := st, pending := pe, fn, tmps := a.tmps, params := ps, assign, body, defers := D }
theorem range_T {α : Type} {g : Operand} {ps : Array Tmp} {assign body : Code} {Q : Exit → Act → World → Prop} {a : Act} {w : World}
    (hro : F.round = none) (h1 : 1 ≤ n) {gf : Nat} {lb : Array Value} (hg : a.eval g = .func (.func gf) #[] lb) (hFg : F.fn gf) (eg : ∀ args w, (callFunc gf args).run P w = .ok (.enter gf args) w)
    {encs : α → Array Value} {Kp : World → World → Prop} {T : α → World → Prop} {S : List α → Prop} {M : Nat} (hseq : SeqT F (n - 1) P gf lb encs Kp T S M w)
    (hKt : ∀ {A B C : World}, Kp A B → Kp B C → Kp A C) (hKb : ∀ (W : World) (l : Nat) (o o' : Obj), w.heap.size ≤ l → W.heap[l]? = some o → o.isCells = false → Kp W (W.putObj l o')) (hps : ∀ x, (encs x).size = ps.size)
    (I : List α → World → Prop) (hI : OwnFrom w.heap.size I) (h0 : I [] w) (Ax : α → Act → World → Prop) (hAx : ∀ x a', OwnFrom w.heap.size (fun (_ : Unit) W => Ax x a' W))
    (hassign : ∀ (l : Nat) (pre : List α) (x : α) (W : World) (K : Act → World → Prop), I pre W → T x W → (∀ a' W', KeepsFrom w.heap.size W W' → Kp W W' → I pre W' → Ax x a' W' → K a' W') →
      assign.wpIn (F.inRound l) (n - 1 - 1) P (Exit.then K (fun _ _ _ => False)) { tmps := (ps.zip (encs x)).foldl (fun t (p, v) => t.setIfInBounds p v) a.tmps, defers := [] } W)
    (hbody : ∀ (l : Nat) (pre : List α) (x : α) (a' : Act) (W : World), I pre W → Ax x a' W → pre.length < M → body.wpIn (F.inRound l) (n - 1 - 1) P (goesOn fun W' => KeepsFrom w.heap.size W W' ∧ Kp W W' ∧ I (pre ++ [x]) W') a' W)
    (hdone : ∀ (D : Nat) (xs : List α) (W : World), w.heap.size ≤ D → S xs → I xs W → W.heap[D]? = some (.deferred (some [])) → Q .normal { a with defers := { target := .collected D, args := #[] } :: a.defers } W) :
    (Code.rangeFunc g ps assign body).wpIn F n P Q a w := by
  refine wpIn_rangeFunc ?_
  intro fn hfn
  rw [hro]
  obtain ⟨rc, hrc⟩ : ∃ rc, rc = loopRec fn a ps assign body w.heap.size := ⟨_, rfl⟩
  obtain ⟨N, hN⟩ : ∃ N, N = w.heap.size := ⟨_, rfl⟩
  obtain ⟨W1, hW1⟩ : ∃ W1, (w.alloc (.deferred (some []))).alloc (.loop (rc .ready none)) = W1 := ⟨_, rfl⟩
  have hL1 : W1.heap[N + 1]? = some (.loop (rc .ready none)) := by
    rw [← hW1, hN]; have := World.alloc_heap_new (w.alloc (.deferred (some []))) (.loop (rc .ready none)); rwa [World.size_alloc] at this
  have hK1 : W1.heap[N]? = some (.deferred (some [])) := by
    rw [← hW1, hN]; exact (Below.heap_alloc _ _ _ (by simp)).trans (World.alloc_heap_new w _)
  have hI1 : I [] W1 := by rw [← hW1]; exact hI.alloc _ (hI.alloc _ h0)
  have hb1 : Below w.heap.size w W1 := by rw [← hW1]; exact ((Below.refl _ w).alloc (Nat.le_refl _) _).alloc (by simp) _
  refine ⟨N + 1, [{ target := .collected N, args := #[] }], W1, { target := .fn (.func gf) lb, args := #[.func (.yield (N + 1)) #[] #[]] }, W1, gf,
    #[.func (.yield (N + 1)) #[] #[]] ++ lb, W1, ?_, ?_, ?_, ?_, fun _ => h1, ?_⟩
  · rw [← hW1, hrc, hN]; exact run_enterLoop_outer _ _ _ _ _
  · simp only [resolve, hg]
    simp [go_sem]
  · intro f' hf'; simp [Target.leads] at hf'; subst hf'; exact hFg
  · simp [invoke, go_sem, eg]
  have turn : ∀ {A B : World} {row : Option Nat}, (∀ r, row = some r → W1.heap.size ≤ r ∧ ∃ o : Obj, A.heap[r]? = some o ∧ o.isWalk = true) → (∀ r, row = some r → w.heap.size ≤ r ∧ ∃ o : Obj, A.heap[r]? = some o ∧ o.isCells = false) :=
    fun hr r e => by obtain ⟨hB, o, ho, hw⟩ := hr r e; exact ⟨Nat.le_trans hb1.size hB, o, ho, Obj.not_cells_of_walk hw⟩
  refine (hseq (N + 1) (fun pre W => I pre W ∧ W.heap[N + 1]? = some (.loop (rc .ready none)) ∧ W.heap[N]? = some (.deferred (some []))) W1 hb1
    (fun s A B row hs hg' hr => ⟨hI s A B row hs.1 hg' (turn (B := B) hr), (grownBy_keeps hg' (fun r e => (hr r e).2) hs.2.1 rfl).trans hs.2.1, (grownBy_keeps hg' (fun r e => (hr r e).2) hs.2.2 rfl).trans hs.2.2⟩) ?_ ⟨hI1, hL1, hK1⟩).mono ?_
  · rintro pre x W ⟨hi, hl, hk⟩ ht hlen
    have hy := run_yield (P := P) (args := encs x) hl (by rw [hrc]; exact hps x)
    rw [hrc] at hy
    refine ⟨fn, _, assign, body, hy, roundIn_of_wpIn hfn (hassign _ pre x W _ hi ht ?_)⟩
    intro a' Wa kf kp hia hax
    have hla := kf.same _ _ (by omega) hl rfl
    have hka := kf.same _ _ (by omega) hk rfl
    have hlt : N + 1 < Wa.heap.size := (Array.getElem?_eq_some_iff.1 hla).1
    refine ⟨_, run_beginRound hla (by rw [hrc]; rfl), ?_⟩
    obtain ⟨bz, hbz⟩ : ∃ bz : Loop, bz = { rc .ready none with state := .busy } := ⟨_, rfl⟩
    rw [← hbz]
    have hl2 : (Wa.putObj (N + 1) (.loop bz)).heap[N + 1]? = some (.loop bz) := World.putObj_heap_same hlt
    have hk2 : (Wa.putObj (N + 1) (.loop bz)).heap[N]? = some (.deferred (some [])) := (World.putObj_heap_other (by omega)).trans hka
    refine wpIn_mono (hbody _ pre x a' _ (hI.putObj _ hia (by omega) hla rfl) ((hAx x a').putObj (s := ()) _ hax (by omega) hla rfl) hlen) ?_
    rintro e a3 W3 hp
    cases e with
    | normal =>
      obtain ⟨k3, kp3, hi3⟩ := hp
      have hl3 := k3.same _ _ (by omega) hl2 rfl
      have hk3 := k3.same _ _ (by omega) hk2 rfl
      have hend := run_endRound (P := P) none hl3
      rw [hbz, hrc] at hend
      rw [hbz, hrc] at hl3
      refine ⟨_, _, hend, rfl, ⟨hI.putObj _ hi3 (by omega) hl3 rfl, ?_, (World.putObj_heap_other (by omega)).trans hk3⟩, hKt kp (hKt (hKt (hKb _ _ _ _ (by omega) hla rfl) kp3) (hKb _ _ _ _ (by omega) hl3 rfl))⟩
      rw [hrc]
      exact World.putObj_heap_same (Array.getElem?_eq_some_iff.1 hl3).1
    | _ => exact hp.elim
  · rintro e W2 ⟨⟨v, rfl⟩, xs, hS, hi, hl, hk⟩
    have hend := run_endLoop (P := P) hl (by rw [hrc]; simp [loopRec])
    rw [hrc] at hend
    exact ⟨none, _, hend, hdone N xs _ (by omega) hS (hI.putObj _ hi (by omega) hl rfl) ((World.putObj_heap_other (by omega)).trans hk)⟩
end
end Go.Proofs.YtpmjlaiafgbjgaaDoor
end

section
namespace Go.Proofs.YtpmjlaiafgbjgaaDoor
open Go.RowKit

theorem LogS.listB {w : World} {S : Nat → Prop} {xb : Nat} {rs : List Rec} (h : LogS w S xb rs) : ∃ Al cl, w.cell? ⟨xb, 1, none⟩ = some (.slice Al rs.length cl) ∧ rs.length ≤ cl ∧ RecB w Al (rs.map Rec.i) := by
  obtain ⟨hS, hmade, hfirm, ps, lv, kv, bv, hps, p1, p2, p3, hRW, hown⟩ := h
  obtain ⟨Al, cl, rfl, hcl, hB, _, _⟩ := RecsO.at (rs := rs.map Rec.i) ⟨ps, hps, hRW.recs⟩
  rw [List.length_map] at hcl p1
  exact ⟨Al, cl, p1, hcl, hB⟩

set_option maxRecDepth 100000 in
set_option maxHeartbeats 1000000 in
theorem Get_log (S : Nat → Prop) (xb : Nat) (rs : List Rec) (i : Nat) (r : Rec) (hr : rs[i]? = some r) (hrd : r.data.length ≤ 70368744177664) (w : World) (hP : LogS w S xb rs) : Calls Tryd.prog 35 #[.pointer (some ⟨xb, 0, none⟩), .int .i64 (i : Int)] w fun e w' => ∃ v, e = .returned (.tuple #[.agg #[.int .i64 (r.kind : Int), v], .int .i64 0]) ∧ OwnB w' w.heap.size v r.data ∧ Within w w' := by
  have h0 := hP.made
  have hxb := hP.lt
  obtain ⟨Al, cl, h1, hcl, hRB⟩ := hP.listB
  obtain ⟨hlt, _⟩ := List.getElem?_eq_some_iff.1 hr
  obtain ⟨g, Dv, cv, rfl, l1, y0, y1, hcv, hs1, _⟩ := hRB i r.i (by rw [List.getElem?_map, hr]; rfl)
  have x0 : w.cell? ⟨g, i * 2, none⟩ = some (.int .i64 (r.kind : Int)) := y0
  have x1 : w.cell? ⟨g, i * 2 + 1, none⟩ = some (.slice Dv r.data.length cv) := y1
  have hs1 : SlAt w Dv (u8v r.data) := hs1
  clear y0 y1
  obtain ⟨Z, hZ⟩ : ∃ Z, Z = w.alloc (.cells #[.int .i64 0, .slice none 0 0] 50) := ⟨_, rfl⟩
  have hZs : Z.heap.size = w.heap.size + 1 := by rw [hZ]; simp
  have iZ : Within w Z := by rw [hZ]; exact (Within.refl w).alloc _
  have zh0 : Z.cell? ⟨xb, 0, none⟩ = some (.int .i64 1) := (iZ.cells _ _ hxb).trans h0
  obtain ⟨W1, hW1⟩ : ∃ W, W = Z.alloc (.cells #[.int .i64 (r.kind : Int), .slice Dv r.data.length cv] 50) := ⟨_, rfl⟩
  have i1 : Within Z W1 := by rw [hW1]; exact (Within.refl Z).alloc _
  have hws : W1.heap.size = w.heap.size + 2 := by rw [hW1]; simp [hZs]
  have q0 : W1.cell? ⟨w.heap.size, 0, none⟩ = some (.int .i64 0) := (i1.cells _ _ (by omega)).trans (by rw [hZ]; simp)
  have q1 : W1.cell? ⟨w.heap.size, 1, none⟩ = some (.slice none 0 0) := (i1.cells _ _ (by omega)).trans (by rw [hZ]; simp)
  have qf0 : W1.frozen? ⟨w.heap.size, 0, none⟩ = false := (i1.frozens _ _ (by omega)).trans (by rw [hZ]; simp)
  have qf1 : W1.frozen? ⟨w.heap.size, 1, none⟩ = false := (i1.frozens _ _ (by omega)).trans (by rw [hZ]; simp)
  have qs : w.heap.size < W1.heap.size := by omega
  have z0 : W1.cell? ⟨Z.heap.size, 0, none⟩ = some (.int .i64 (r.kind : Int)) := by rw [hW1]; simp
  have z1 : W1.cell? ⟨Z.heap.size, 1, none⟩ = some (.slice Dv r.data.length cv) := by rw [hW1]; simp
  have zs : Z.heap.size < W1.heap.size := by omega
  have CL := Lib.hid (fun W (h : Within W1 W) => clone_any Dv cv r.data hrd W (hs1.of ((iZ.trans i1).trans h)))
  have IS : Hid (Calls Tryd.prog 43 #[.pointer (some ⟨xb, 0, none⟩)] Z fun e w' => e = .returned (.bool true) ∧ w' = Z) := Lib.hid (is_true xb Z zh0)
  have b0 : ((i : Int) < 0) = False := by simp
  have b1 : decide ((rs.length : Int) ≤ (i : Int)) = false := decide_eq_false (by omega)
  have b2 : (0 : Int) ≤ (i : Int) := by omega
  have b3 : (i : Int) < (rs.length : Int) := by omega
  obtain ⟨n, hn⟩ : ∃ n, rs.length = n := ⟨_, rfl⟩
  rw [hn] at h1 hcl b1 b3 hlt
  obtain ⟨nd, hnd⟩ : ∃ n, r.data.length = n := ⟨_, rfl⟩
  rw [hnd] at x1 CL hW1 z1
  obtain ⟨k, hk⟩ : ∃ k, r.kind = k := ⟨_, rfl⟩
  rw [hk] at x0 hW1 z0 ⊢
  have zh1 := (iZ.cells _ 1 hxb).trans h1
  have zx0 := (iZ.cells _ (i * 2) l1).trans x0
  have zx1 := (iZ.cells _ (i * 2 + 1) l1).trans x1
  have zg := Nat.lt_of_lt_of_le l1 iZ.size
  have zxb := Nat.lt_of_lt_of_le hxb iZ.size
  have HZ := Lib.hid hZ; have HW1 := Lib.hid hW1; clear hZ hW1
  have HI := Lib.hid (iZ.trans i1); have HWS := Lib.hid hws; have HZS := Lib.hid hZs; have HND := Lib.hid hnd
  clear hP hr hRB hs1 hcv hn hnd hk iZ i1 hrd h0 h1 x0 x1 hxb l1 hZs hws
  go_enter Tryd.func35, Tryd.ntmps35
  go_wp2_with fail
  rw [← HZ.out]
  refine IS.out.mono ?_; rintro e1 w1 ⟨rfl, rfl⟩
  have zne : ¬ w1.heap.size = w.heap.size := by rw [HZS.out]; omega
  go_wp2_with fail
  rw [← HW1.out]
  refine wp_region_schT (fun j => j = w.heap.size) (fun W => W.cell? ⟨w.heap.size, 0, none⟩ = some (.int .i64 0) ∧ W.cell? ⟨w.heap.size, 1, none⟩ = some (.slice none 0 0) ∧ W.frozen? ⟨w.heap.size, 0, none⟩ = false ∧ W.frozen? ⟨w.heap.size, 1, none⟩ = false ∧ w.heap.size < W.heap.size ∧ W.cell? ⟨w1.heap.size, 0, none⟩ = some (.int .i64 (k : Int)) ∧ W.cell? ⟨w1.heap.size, 1, none⟩ = some (.slice Dv nd cv) ∧ w1.heap.size < W.heap.size ∧ Within W1 W) 7 (.firm 0 (.firm 1 (.firm 2 (.firm 3 (.one 4 (.firm 5 (.one 6 (.one 7 .nil)))))))) (by kernel_rfl) (by kernel_rfl) ⟨q0, q1, qf0, qf1, qs, z0, z1, zs, Within.refl _⟩ ?_
  rintro w0 ⟨q0, q1, qf0, qf1, qs, z0, z1, zs, hw0⟩
  try simp only [Act.put, List.setIfInBounds_toArray, List.set_cons_zero, List.set_cons_succ]
  iterate 4
    apply sch_firm rfl rfl (by repeat (first | with_reducible exact ButS.refl _ _ | with_reducible assumption | with_reducible refine ButS.drew ?_ | with_reducible refine ButS.alloc ?_ _ | with_reducible refine ButS.within ?_ (by assumption)))
    · intro wq hq
      have g0 := (hq.cells _ 0 zs zne).trans z0
      have g1 := (hq.cells _ 1 zs zne).trans z1
      have g2 := Nat.lt_of_lt_of_le zs hq.size
      clear hq
      go_simp
      rfl
    try simp only [Act.put, List.setIfInBounds_toArray, List.set_cons_zero, List.set_cons_succ]
  refine sch_one rfl rfl (fun K hK => ?_)
  go_simp
  refine (CL.out _ (by exact hw0.drew)).mono ?_; rintro e2 w2 ⟨v2, rfl, hO2, h2⟩
  obtain ⟨A2, c2, rfl, _, _, _⟩ := hO2.form
  rw [HND.out] at hO2 ⊢
  have HO2 := Lib.hid hO2; have H2 := Lib.hid (hw0.drew.trans h2)
  have BK : Hid (ButS (fun j => j = w.heap.size) w0 w2) := Lib.hid (ButS.in_ ((Within.refl w0).drew.trans h2))
  have c0 := (h2.cells w.heap.size 0 qs).trans q0
  have c1 := (h2.cells w.heap.size 1 qs).trans q1
  have cf0 := (h2.frozens w.heap.size 0 qs).trans qf0
  have cf1 := (h2.frozens w.heap.size 1 qs).trans qf1
  have cs := Nat.lt_of_lt_of_le qs h2.size
  clear hO2
  refine hK _ _ (fun _ => (by first | exact (BK.out.set (p := ⟨w.heap.size, 0, none⟩) (.inl rfl) _).set (p := ⟨w.heap.size, 1, none⟩) (.inl rfl) _ | (repeat (first | with_reducible exact ButS.refl _ _ | with_reducible assumption | with_reducible refine ButS.drew ?_ | with_reducible refine ButS.within ?_ (by assumption))))) ?_
  clear hK K
  try simp only [Act.put, List.setIfInBounds_toArray, List.set_cons_zero, List.set_cons_succ]
  apply sch_firm rfl rfl (by repeat (first | with_reducible exact ButS.refl _ _ | with_reducible assumption | with_reducible refine ButS.drew ?_ | with_reducible refine ButS.alloc ?_ _ | with_reducible refine ButS.within ?_ (by assumption)))
  · intro wq hq
    have g0 := (hq.cells _ 0 zs zne).trans z0
    have g1 := (hq.cells _ 1 zs zne).trans z1
    have g2 := Nat.lt_of_lt_of_le zs hq.size
    clear hq
    go_simp
    rfl
  try simp only [Act.put, List.setIfInBounds_toArray, List.set_cons_zero, List.set_cons_succ]
  refine sch_one rfl rfl (fun K hK => ?_)
  go_simp
  refine hK _ _ (fun _ => (by first | exact (BK.out.set (p := ⟨w.heap.size, 0, none⟩) (.inl rfl) _).set (p := ⟨w.heap.size, 1, none⟩) (.inl rfl) _ | (repeat (first | with_reducible exact ButS.refl _ _ | with_reducible assumption | with_reducible refine ButS.drew ?_ | with_reducible refine ButS.within ?_ (by assumption))))) ?_
  clear hK K
  try simp only [Act.put, List.setIfInBounds_toArray, List.set_cons_zero, List.set_cons_succ]
  refine sch_one rfl rfl (fun K hK => ?_)
  go_simp
  refine hK _ _ (fun h => absurd h (by decide)) ?_
  clear hK K
  try simp only [Act.put, List.setIfInBounds_toArray, List.set_cons_zero, List.set_cons_succ]
  refine sch_nil ?_
  have hK : But w.heap.size w2 ((w2.setCell ⟨w.heap.size, 0, none⟩ (.int .i64 (k : Int))).setCell ⟨w.heap.size, 1, none⟩ (.slice A2 nd c2)) := ((But.refl _ w2).set (p := ⟨w.heap.size, 0, none⟩) (.inl rfl) _).set (p := ⟨w.heap.size, 1, none⟩) (.inl rfl) _
  have hI9 : Within w ((w2.setCell ⟨w.heap.size, 0, none⟩ (.int .i64 (k : Int))).setCell ⟨w.heap.size, 1, none⟩ (.slice A2 nd c2)) := ((HI.out.trans H2.out).setCell (Nat.le_refl _) _).setCell (Nat.le_refl _) _
  have hO9 := HO2.out.but hK (by exact qs)
  have HO9 := Lib.hid (hO9.less (Nat.le_of_lt (by exact qs)))
  have HI9 := Lib.hid hI9; clear hK hI9 hO9
  go_wp2
  refine bodyPost_ret (v := .tuple #[.agg #[.int .i64 (k : Int), .slice A2 nd c2], .int .i64 0]) (by simp [results, Tryd.results35, go_sem, c0, c1, cf0, cf1, cs]) rfl ⟨_, rfl, HO9.out, HI9.out⟩

end Go.Proofs.YtpmjlaiafgbjgaaDoor
end

section
namespace Go.Proofs.YtpmjlaiafgbjgaaDoor
open Go.RowKit

attribute [local go_sem] Oper.semAt_some
/-- what a ranging over a log yields: the number, the record's kind, its bytes' slice, its bytes -/
structure Yd where
  i : Nat
  k : Int
  v : Value
  d : List Nat
def Yd.enc (x : Yd) : Array Value := #[.int .i64 (x.i : Int), .agg #[.int .i64 x.k, x.v]]
def Yd.at_ (n₀ : Nat) (x : Yd) (W : World) : Prop := OwnB W n₀ x.v x.d ∧ Bytes x.d ∧ x.d.length ≤ 1048576
/-- all of it has come, from number m on -/
def YdAll (rs : List Rec) (m : Nat) (xs : List Yd) : Prop := xs.map (fun x => ((x.k, x.d) : IRec)) = (rs.map Rec.i).drop m ∧ ∀ j x, xs[j]? = some x → x.i = m + j
/-- a part has come -/
def YdPre (rs : List Rec) (m : Nat) (pre : List Yd) : Prop := pre.map (fun x => ((x.k, x.d) : IRec)) = ((rs.map Rec.i).drop m).take pre.length ∧ (∀ j x, pre[j]? = some x → x.i = m + j) ∧ m + pre.length ≤ rs.length
theorem YdPre.nil {rs : List Rec} {m : Nat} (h : m ≤ rs.length) : YdPre rs m [] := ⟨rfl, fun j x hx => by simp at hx, h⟩
theorem YdPre.more {rs : List Rec} {m : Nat} {pre : List Yd} {r : Rec} {v : Value} (h : YdPre rs m pre) (hr : rs[m + pre.length]? = some r) : YdPre rs m (pre ++ [⟨m + pre.length, (r.kind : Int), v, r.data⟩]) := by
  obtain ⟨h1, h2, h3⟩ := h
  obtain ⟨hlt, _⟩ := List.getElem?_eq_some_iff.1 hr
  refine ⟨?_, fun j x hx => ?_, by rw [List.length_append]; simp; omega⟩
  · rw [List.map_append, h1, List.length_append]
    show _ ++ [r.i] = List.take (pre.length + 1) _
    rw [List.take_add_one, List.getElem?_drop, List.getElem?_map, hr]; rfl
  · by_cases hj : j < pre.length
    · rw [List.getElem?_append_left hj] at hx; exact h2 j x hx
    · rw [List.getElem?_append_right (by omega)] at hx
      have hj0 : j - pre.length = 0 := by
        rcases Nat.eq_zero_or_pos (j - pre.length) with h | h
        · exact h
        · rw [List.getElem?_eq_none (by simp; omega)] at hx; cases hx
      rw [hj0] at hx
      have := Option.some.inj hx
      rw [← this]
      show m + pre.length = m + j
      omega
theorem YdPre.all {rs : List Rec} {m : Nat} {pre : List Yd} (h : YdPre rs m pre) (hn : m + pre.length = rs.length) : YdAll rs m pre := by
  obtain ⟨h1, h2, h3⟩ := h
  refine ⟨?_, h2⟩
  rw [h1]
  refine List.take_of_length_le ?_
  rw [List.length_drop, List.length_map]; omega

set_option maxRecDepth 100000 in
set_option maxHeartbeats 1000000 in
theorem Each_any (x : Option Addr) (m : Int) (w : World) : Calls Tryd.prog 37 #[.pointer x, .int .i64 m] w fun e w' => e = .returned (.func (.func 60) #[] #[.pointer (some ⟨w.heap.size, 0, none⟩), .pointer (some ⟨w.heap.size + 1, 0, none⟩)]) ∧ w' = (w.alloc (.cells #[.pointer x] 24)).alloc (.cells #[.int .i64 m] 3) := by
  go_enter Tryd.func37, Tryd.ntmps37
  go_wp2
  go_ret
  exact ⟨rfl, rfl⟩

set_option maxRecDepth 100000 in
set_option maxHeartbeats 1000000 in
theorem Each1_seq (Z S0 : Nat → Prop) (n₀ xb bx bf m : Nat) (rs : List Rec) (hrd : ∀ r ∈ rs, r.data.length ≤ 1048576 ∧ Bytes r.data) (hm : m ≤ rs.length) (hrs : rs.length ≤ 1048576) (w : World) (hn : n₀ ≤ w.heap.size) (hP : LogS w S0 xb rs) (hcx : w.cell? ⟨bx, 0, none⟩ = some (.pointer (some ⟨xb, 0, none⟩))) (hcf : w.cell? ⟨bf, 0, none⟩ = some (.int .i64 (m : Int))) (hz : ∀ j, S0 j → ¬ Z j) (hzx : ¬ Z bx) (hzf : ¬ Z bf) : SeqT Fence.wide 2 Tryd.prog 60 #[.pointer (some ⟨bx, 0, none⟩), .pointer (some ⟨bf, 0, none⟩)] Yd.enc (ButS Z) (Yd.at_ n₀) (YdAll rs m) rs.length w := by
  intro l J W hW hJ hY h0
  have hPW : LogS W S0 xb rs := hP.keep fun j _ hl => hW.block j hl
  have hbx : W.cell? ⟨bx, 0, none⟩ = some (.pointer (some ⟨xb, 0, none⟩)) := (hW.cell (p := ⟨bx, 0, none⟩) (World.block_lt_of_cell? _ _ hcx)).trans hcx
  have hbf : W.cell? ⟨bf, 0, none⟩ = some (.int .i64 (m : Int)) := (hW.cell (p := ⟨bf, 0, none⟩) (World.block_lt_of_cell? _ _ hcf)).trans hcf
  have hn0 : n₀ ≤ W.heap.size := Nat.le_trans hn hW.size
  have hbxl := World.block_lt_of_cell? _ _ hbx
  have hbfl := World.block_lt_of_cell? _ _ hbf
  have hxbl := hPW.lt
  have LN := Lib.hid (Len_log S0 xb rs W hPW)
  have HPW := Lib.hid hPW; clear hPW hP hcx hcf hW
  have hmx : max (m : Int) 0 = (m : Int) := by omega
  refine callsIn_of_wp Tryd.func60 rfl trivial ?_ rfl
  simp only [Tryd.ntmps60, List.size_toArray, List.length_cons, List.length_nil, Nat.reduceAdd, Nat.reduceSub, Array.replicate_succ, Array.replicate_zero, List.push_toArray, List.append_toArray, List.nil_append, List.cons_append]
  gi_wp2_with (refine ⟨trivial, ?_⟩; gi_at_call 20; refine (callsIn_wide.2 LN.out).mono ?_; rintro e1 w1 ⟨rfl, hw1⟩; have hw2 := hw1.symm; subst hw2)
  gi_loopw [5] (fun iv wr => ∃ pre : List Yd, iv = .int .i64 ((m + pre.length : Nat) : Int) ∧ YdPre rs m pre ∧ J pre wr ∧ ButS Z W wr) (fun iv _ => rs.length - (intOf iv).toNat)
  case atStart => exact ⟨[], by simp, YdPre.nil hm, h0, ButS.refl _ _⟩
  case round =>
    obtain ⟨pre, rfl, hpre, hJs, hbut⟩ := hrel
    have hxl := Nat.lt_of_lt_of_le hbxl hbut.size
    have hfl := Nat.lt_of_lt_of_le hbfl hbut.size
    have hbx' := (hbut.cells _ 0 hbxl hzx).trans hbx
    have hPr := HPW.out.butS hbut (fun j hj _ => hz j hj)
    obtain ⟨k, hk⟩ : ∃ k, m + pre.length = k := ⟨_, rfl⟩
    by_cases hlt : k < rs.length
    · obtain ⟨r, hr⟩ : ∃ r, rs[k]? = some r := ⟨_, List.getElem?_eq_getElem hlt⟩
      have GL := Lib.hid (Get_log S0 xb rs k r hr (by have := (hrd r (List.mem_of_getElem? hr)).1; omega) wr hPr)
      have hmore := fun v => hpre.more (r := r) (v := v) (by rw [hk]; exact hr)
      rw [hk] at hmore
      have HR := Lib.hid (And.intro (hrd r (List.mem_of_getElem? hr)).2 (hrd r (List.mem_of_getElem? hr)).1)
      have HY : Hid (∀ w2 v2, OwnB w2 wr.heap.size v2 r.data → Within wr w2 → YieldAt Fence.wide (2 - 1) Tryd.prog l (Yd.enc ⟨k, (r.kind : Int), v2, r.data⟩) (w2.alloc (.cells #[.int .i64 (r.kind : Int), v2] 50)) fun e W' => e = .returned (.bool true) ∧ J (pre ++ [⟨k, (r.kind : Int), v2, r.data⟩]) W' ∧ ButS Z (w2.alloc (.cells #[.int .i64 (r.kind : Int), v2] 50)) W') := Lib.hid (fun w2 v2 hO h => hY pre _ _ (hJ _ _ _ none hJs (within_grown (h.alloc _)) (fun r e => by cases e)) ⟨(hO.less (Nat.le_trans hn0 hbut.size)).of ((Within.refl _).alloc _), HR.out⟩ (by omega))
      have b1 : (k : Int) < (rs.length : Int) := by omega
      obtain ⟨kd, hkd⟩ : ∃ k, (r.kind : Int) = k := ⟨_, rfl⟩
      rw [hkd] at GL HY hmore
      obtain ⟨nd, hnd⟩ : ∃ n, r.data.length = n := ⟨_, rfl⟩
      have HND := Lib.hid hnd
      have HB := Lib.hid hbut; have HM := Lib.hid hmore; have HK := Lib.hid hk; clear hmore hbut hPr hr hkd hnd hpre hJs
      rw [HK.out]
      gi_wp2_with (refine ⟨trivial, ?_⟩; gi_at_call 35; refine (callsIn_wide.2 GL.out).mono ?_; rintro e2 w2 ⟨v2, rfl, hO2, h2⟩; obtain ⟨A2, c2, rfl, _, _, _⟩ := hO2.form; obtain ⟨fn, tmps, assign, body, hy, hR⟩ := HY.out w2 _ hO2 h2; dsimp only [Yd.enc] at hy; rw [HND.out] at hy hR ⊢)
      refine hR.mono ?_; rintro e3 W3 ⟨rfl, hJ3, hk3⟩
      have hb3 : ButS Z W W3 := (HB.out.within (h2.alloc _)).trans hk3 fun _ _ h => h
      have HB3 := Lib.hid hb3; clear hb3 hk3 h2 hO2
      gi_wp2
      go_roundw
      case rel => exact ⟨_, by rw [List.length_append]; show Value.int _ _ = Value.int _ _; congr 1; have := HK.out; simp; omega, HM.out _, hJ3, HB3.out⟩
      case measure => simp [intOf]; omega
    · obtain rfl : k = rs.length := by have := hpre.2.2; omega
      have hall := hpre.all hk
      have HA := Lib.hid hall; clear hall hbut hpre
      rw [hk]
      gi_wp2
      go_end0
      exact ⟨⟨_, rfl⟩, pre, HA.out, hJs⟩

end Go.Proofs.YtpmjlaiafgbjgaaDoor
end

section
namespace Go.Proofs.YtpmjlaiafgbjgaaDoor
open Go.RowKit

section
variable {F : Fence} {n : Nat} {P : Program}
/-- what an iterator owes that reads, at each of its steps, what the caller's invariant holds (G); T: what holds of what is yielded, in the world ahead of it and in its own -/
def SeqG {α : Type} (F : Fence) (n : Nat) (P : Program) (g : Nat) (lb : Array Value) (encs : α → Array Value) (G : List α → World → Prop) (T : List α → α → World → World → Prop) (S Sp : List α → Prop) (N : Nat) : Prop :=
  ∀ (l : Nat) (J Jx : List α → World → Prop) (W : World), AbidesFrom W.heap.size J → AbidesFrom W.heap.size Jx → (∀ pre W, J pre W → G pre W) →
    (∀ pre x W0 W1, J pre W0 → Within W0 W1 → T pre x W0 W1 → pre.length < N → YieldAt F (n - 1) P l (encs x) W1 fun e W' => (e = .returned (.bool true) ∧ J (pre ++ [x]) W') ∨ (e = .returned (.bool false) ∧ Jx (pre ++ [x]) W')) →
    J [] W → CallsIn F n P g (#[.func (.yield l) #[] #[]] ++ lb) W fun e W' => (∃ v, e = .returned v) ∧ ((∃ xs, S xs ∧ J xs W') ∨ (∃ pre, Sp pre ∧ Jx pre W'))
/-- how a round ends -/
def roundEnds {α : Type} (B : Nat) (I : List α → World → Prop) (Ix : Code → List α → World → Prop) (xs : List α) (W : World) : Exit → Act → World → Prop
  | .normal, _, W' => KeepsFrom B W W' ∧ I xs W'
  | .ret, _, W' => KeepsFrom B W W' ∧ Ix .ret xs W'
  | .exit id, _, W' => KeepsFrom B W W' ∧ Ix (.exit id) xs W'
  | .goto t, _, W' => KeepsFrom B W W' ∧ Ix (.goto t) xs W'
  | _, _, _ => False
theorem range_G {α : Type} {g : Operand} {ps : Array Tmp} {assign body : Code} {Q : Exit → Act → World → Prop} {a : Act} {w : World}
    (hro : F.round = none) (h1 : 1 ≤ n) {gf : Nat} {lb : Array Value} (hg : a.eval g = .func (.func gf) #[] lb) (hFg : F.fn gf) (eg : ∀ args w, (callFunc gf args).run P w = .ok (.enter gf args) w)
    {encs : α → Array Value} {G : List α → World → Prop} {T : List α → α → World → World → Prop} {S Sp : List α → Prop} {M : Nat} (hseq : SeqG F (n - 1) P gf lb encs G T S Sp M)
    (hps : ∀ x, (encs x).size = ps.size)
    (I : List α → World → Prop) (Ix : Code → List α → World → Prop) (hI : OwnFrom w.heap.size I) (hIx : ∀ c, OwnFrom w.heap.size (Ix c)) (hG : ∀ pre W, I pre W → G pre W) (h0 : I [] w)
    (Ax : List α → α → Act → World → Prop) (hAx : ∀ pre x a', OwnFrom w.heap.size (fun (_ : Unit) W => Ax pre x a' W))
    (hassign : ∀ (l : Nat) (pre : List α) (x : α) (W0 W : World) (K : Act → World → Prop), I pre W0 → Within W0 W → T pre x W0 W → pre.length < M → (∀ a' W', KeepsFrom w.heap.size W W' → I pre W' → Ax pre x a' W' → K a' W') →
      assign.wpIn (F.inRound l) (n - 1 - 1) P (Exit.then K (fun _ _ _ => False)) { tmps := (ps.zip (encs x)).foldl (fun t (p, v) => t.setIfInBounds p v) a.tmps, defers := [] } W)
    (hbody : ∀ (l : Nat) (pre : List α) (x : α) (a' : Act) (W : World), I pre W → Ax pre x a' W → pre.length < M → body.wpIn (F.inRound l) (n - 1 - 1) P (roundEnds w.heap.size I Ix (pre ++ [x]) W) a' W)
    (hdone : ∀ (D : Nat) (xs : List α) (W : World), w.heap.size ≤ D → S xs → I xs W → W.heap[D]? = some (.deferred (some [])) → Q .normal { a with defers := { target := .collected D, args := #[] } :: a.defers } W)
    (hstop : ∀ (D : Nat) (c : Code) (pre : List α) (W : World), w.heap.size ≤ D → Sp pre → Ix c pre W → W.heap[D]? = some (.deferred (some [])) → c.wpIn F n P Q { a with defers := { target := .collected D, args := #[] } :: a.defers } W) :
    (Code.rangeFunc g ps assign body).wpIn F n P Q a w := by
  refine wpIn_rangeFunc ?_
  intro fn hfn
  rw [hro]
  obtain ⟨rc, hrc⟩ : ∃ rc, rc = loopRec fn a ps assign body w.heap.size := ⟨_, rfl⟩
  obtain ⟨N, hN⟩ : ∃ N, N = w.heap.size := ⟨_, rfl⟩
  obtain ⟨W1, hW1⟩ : ∃ W1, (w.alloc (.deferred (some []))).alloc (.loop (rc .ready none)) = W1 := ⟨_, rfl⟩
  have hL1 : W1.heap[N + 1]? = some (.loop (rc .ready none)) := by
    rw [← hW1, hN]; have := World.alloc_heap_new (w.alloc (.deferred (some []))) (.loop (rc .ready none)); rwa [World.size_alloc] at this
  have hK1 : W1.heap[N]? = some (.deferred (some [])) := by
    rw [← hW1, hN]; exact (Below.heap_alloc _ _ _ (by simp)).trans (World.alloc_heap_new w _)
  have hI1 : I [] W1 := by rw [← hW1]; exact hI.alloc _ (hI.alloc _ h0)
  have hb1 : Below w.heap.size w W1 := by rw [← hW1]; exact ((Below.refl _ w).alloc (Nat.le_refl _) _).alloc (by simp) _
  refine ⟨N + 1, [{ target := .collected N, args := #[] }], W1, { target := .fn (.func gf) lb, args := #[.func (.yield (N + 1)) #[] #[]] }, W1, gf,
    #[.func (.yield (N + 1)) #[] #[]] ++ lb, W1, ?_, ?_, ?_, ?_, fun _ => h1, ?_⟩
  · rw [← hW1, hrc, hN]; exact run_enterLoop_outer _ _ _ _ _
  · simp only [resolve, hg]
    simp [go_sem]
  · intro f' hf'; simp [Target.leads] at hf'; subst hf'; exact hFg
  · simp [invoke, go_sem, eg]
  have turn : ∀ {A B : World} {row : Option Nat}, (∀ r, row = some r → W1.heap.size ≤ r ∧ ∃ o : Obj, A.heap[r]? = some o ∧ o.isWalk = true) → (∀ r, row = some r → w.heap.size ≤ r ∧ ∃ o : Obj, A.heap[r]? = some o ∧ o.isCells = false) :=
    fun hr r e => by obtain ⟨hB, o, ho, hw⟩ := hr r e; exact ⟨Nat.le_trans hb1.size hB, o, ho, Obj.not_cells_of_walk hw⟩
  refine (hseq (N + 1) (fun pre W => I pre W ∧ W.heap[N + 1]? = some (.loop (rc .ready none)) ∧ W.heap[N]? = some (.deferred (some [])))
    (fun pre W => ∃ c, Ix c pre W ∧ W.heap[N + 1]? = some (.loop (rc .done (some c))) ∧ W.heap[N]? = some (.deferred (some []))) W1
    (fun s A B row hs hg' hr => ⟨hI s A B row hs.1 hg' (turn (B := B) hr), (grownBy_keeps hg' (fun r e => (hr r e).2) hs.2.1 rfl).trans hs.2.1, (grownBy_keeps hg' (fun r e => (hr r e).2) hs.2.2 rfl).trans hs.2.2⟩)
    (fun s A B row hs hg' hr => by
      obtain ⟨c, hc, hl, hk⟩ := hs
      exact ⟨c, hIx c s A B row hc hg' (turn (B := B) hr), (grownBy_keeps hg' (fun r e => (hr r e).2) hl rfl).trans hl, (grownBy_keeps hg' (fun r e => (hr r e).2) hk rfl).trans hk⟩)
    (fun pre W h => hG pre W h.1) ?_ ⟨hI1, hL1, hK1⟩).mono ?_
  · rintro pre x Wj W ⟨hij, hlj, hkj⟩ hin ht hlen
    have hl := (hin.block _ (Array.getElem?_eq_some_iff.1 hlj).1).trans hlj
    have hk := (hin.block _ (Array.getElem?_eq_some_iff.1 hkj).1).trans hkj
    have hy := run_yield (P := P) (args := encs x) hl (by rw [hrc]; exact hps x)
    rw [hrc] at hy
    refine ⟨fn, _, assign, body, hy, roundIn_of_wpIn hfn (hassign _ pre x Wj W _ hij hin ht hlen ?_)⟩
    intro a' Wa kf hia hax
    have hla := kf.same _ _ (by omega) hl rfl
    have hka := kf.same _ _ (by omega) hk rfl
    have hlt : N + 1 < Wa.heap.size := (Array.getElem?_eq_some_iff.1 hla).1
    refine ⟨_, run_beginRound hla (by rw [hrc]; rfl), ?_⟩
    obtain ⟨bz, hbz⟩ : ∃ bz : Loop, bz = { rc .ready none with state := .busy } := ⟨_, rfl⟩
    rw [← hbz]
    have hl2 : (Wa.putObj (N + 1) (.loop bz)).heap[N + 1]? = some (.loop bz) := World.putObj_heap_same hlt
    have hk2 : (Wa.putObj (N + 1) (.loop bz)).heap[N]? = some (.deferred (some [])) := (World.putObj_heap_other (by omega)).trans hka
    refine wpIn_mono (hbody _ pre x a' _ (hI.putObj _ hia (by omega) hla rfl) ((hAx pre x a').putObj (s := ()) _ hax (by omega) hla rfl) hlen) ?_
    have fin : ∀ (jump : Option Code) (W3 : World), KeepsFrom w.heap.size (Wa.putObj (N + 1) (.loop bz)) W3 →
        (Instr.endRound (N + 1) jump).run P W3 = .ok (.bool jump.isNone) (W3.putObj (N + 1) (.loop (rc (if jump.isNone then .ready else .done) jump))) ∧
        W3.heap[N + 1]? = some (.loop bz) ∧
        (W3.putObj (N + 1) (.loop (rc (if jump.isNone then .ready else .done) jump))).heap[N + 1]? = some (.loop (rc (if jump.isNone then .ready else .done) jump)) ∧
        (W3.putObj (N + 1) (.loop (rc (if jump.isNone then .ready else .done) jump))).heap[N]? = some (.deferred (some [])) := fun jump W3 hk3 => by
      have hl3 := hk3.same _ _ (by omega) hl2 rfl
      have hk3' := hk3.same _ _ (by omega) hk2 rfl
      have hend := run_endRound (P := P) jump hl3
      rw [hbz, hrc] at hend
      refine ⟨by rw [hrc]; exact hend, hl3, World.putObj_heap_same (Array.getElem?_eq_some_iff.1 hl3).1, (World.putObj_heap_other (by omega)).trans hk3'⟩
    rintro e a3 W3 hp
    cases e with
    | normal =>
      obtain ⟨k3, hi3⟩ := hp
      obtain ⟨hr, hl3, hl4, hk4⟩ := fin none W3 k3
      exact ⟨_, _, hr, .inl ⟨rfl, hI.putObj _ hi3 (by omega) hl3 rfl, hl4, hk4⟩⟩
    | ret =>
      obtain ⟨k3, hi3⟩ := hp
      obtain ⟨hr, hl3, hl4, hk4⟩ := fin (some .ret) W3 k3
      exact ⟨_, _, hr, .inr ⟨rfl, .ret, (hIx _).putObj _ hi3 (by omega) hl3 rfl, hl4, hk4⟩⟩
    | exit id =>
      obtain ⟨k3, hi3⟩ := hp
      obtain ⟨hr, hl3, hl4, hk4⟩ := fin (some (.exit id)) W3 k3
      exact ⟨_, _, hr, .inr ⟨rfl, .exit id, (hIx _).putObj _ hi3 (by omega) hl3 rfl, hl4, hk4⟩⟩
    | goto t =>
      obtain ⟨k3, hi3⟩ := hp
      obtain ⟨hr, hl3, hl4, hk4⟩ := fin (some (.goto t)) W3 k3
      exact ⟨_, _, hr, .inr ⟨rfl, .goto t, (hIx _).putObj _ hi3 (by omega) hl3 rfl, hl4, hk4⟩⟩
    | panic ch => exact hp.elim
    | outgrown => exact hp.elim
  · rintro e W2 ⟨⟨v, rfl⟩, (⟨xs, hS, hi, hl, hk⟩ | ⟨pre, hSp, c, hi, hl, hk⟩)⟩
    · have hend := run_endLoop (P := P) hl (by rw [hrc]; simp [loopRec])
      rw [hrc] at hend
      exact ⟨none, _, hend, hdone N xs _ (by omega) hS (hI.putObj _ hi (by omega) hl rfl) ((World.putObj_heap_other (by omega)).trans hk)⟩
    · have hend := run_endLoop (P := P) hl (by rw [hrc]; simp [loopRec])
      rw [hrc] at hend
      exact ⟨some c, _, hend, hstop N c pre _ (by omega) hSp ((hIx c).putObj _ hi (by omega) hl rfl) ((World.putObj_heap_other (by omega)).trans hk)⟩
end
end Go.Proofs.YtpmjlaiafgbjgaaDoor
end

section
namespace Go.Proofs.YtpmjlaiafgbjgaaDoor
open Go.RowKit

attribute [local go_sem] Oper.semAt_some
def NoLog (p : Option Addr) (w : World) : Prop := p = none ∨ ∃ zb, p = some ⟨zb, 0, none⟩ ∧ w.cell? ⟨zb, 0, none⟩ = some (.int .i64 0)
theorem NoLog.of {p : Option Addr} {w w' : World} (h : NoLog p w) (k : Within w w') : NoLog p w' := by
  rcases h with rfl | ⟨zb, rfl, h⟩
  · exact .inl rfl
  · exact .inr ⟨zb, rfl, (k.cells _ _ (World.block_lt_of_cell? _ _ h)).trans h⟩
theorem NoLog.grown {p : Option Addr} {w w' : World} {row : Option Nat} (h : NoLog p w) (hg : w.grownBy w' row) (hr : ∀ r, row = some r → ∃ o : Obj, w.heap[r]? = some o ∧ o.isCells = false) : NoLog p w' := by
  rcases h with rfl | ⟨zb, rfl, h⟩
  · exact .inl rfl
  · exact .inr ⟨zb, rfl, cell_kept h hg hr⟩
theorem is_no (p : Option Addr) (w : World) (h : NoLog p w) : Calls Tryd.prog 43 #[.pointer p] w fun e w' => e = .returned (.bool false) ∧ w' = w := by
  rcases h with rfl | ⟨zb, rfl, h⟩
  · exact is_nil w
  · exact is_zero zb w h

set_option maxRecDepth 100000 in
set_option maxHeartbeats 1000000 in
theorem Len_no (p : Option Addr) (w : World) (h : NoLog p w)  : Calls Tryd.prog 20 #[.pointer p] w fun e w' => e = .returned (.int .i64 0) ∧ w' = w := by
  have IS := Lib.hid (is_no p w h); clear h
  go_enter Tryd.func20, Tryd.ntmps20
  go_wp2_with fail
  refine IS.out.mono ?_; rintro e1 w1 ⟨rfl, rfl⟩
  go_wp2
  go_ret
  exact ⟨rfl, rfl⟩

set_option maxRecDepth 100000 in
set_option maxHeartbeats 1000000 in
theorem Bytes_no (p : Option Addr) (w : World) (h : NoLog p w)  : Calls Tryd.prog 13 #[.pointer p] w fun e w' => e = .returned (.slice none 0 0) ∧ w' = w := by
  have IS := Lib.hid (is_no p w h); clear h
  go_enter Tryd.func13, Tryd.ntmps13
  go_wp2_with fail
  refine IS.out.mono ?_; rintro e1 w1 ⟨rfl, rfl⟩
  go_wp2
  go_ret
  exact ⟨rfl, rfl⟩

set_option maxRecDepth 100000 in
set_option maxHeartbeats 1000000 in
theorem Cut_no (p : Option Addr) (w : World) (h : NoLog p w) (n : Int) : Calls Tryd.prog 38 #[.pointer p, .int .i64 n] w fun e w' => e = .returned (.int .i64 221) ∧ w' = w := by
  have IS := Lib.hid (is_no p w h); clear h
  go_enter Tryd.func38, Tryd.ntmps38
  go_wp2_with fail
  refine IS.out.mono ?_; rintro e1 w1 ⟨rfl, rfl⟩
  go_wp2
  go_ret
  exact ⟨rfl, rfl⟩

set_option maxRecDepth 100000 in
set_option maxHeartbeats 1000000 in
theorem Clone_no (p : Option Addr) (w : World) (h : NoLog p w)  : Calls Tryd.prog 39 #[.pointer p] w fun e w' => e = .returned (.pointer none) ∧ w' = w := by
  have IS := Lib.hid (is_no p w h); clear h
  go_enter Tryd.func39, Tryd.ntmps39
  go_wp2_with fail
  refine IS.out.mono ?_; rintro e1 w1 ⟨rfl, rfl⟩
  go_wp2
  go_ret
  exact ⟨rfl, rfl⟩

set_option maxRecDepth 100000 in
set_option maxHeartbeats 1000000 in
theorem Append_no (D : Option Addr) (nd cd : Nat) (k : Int) (p : Option Addr) (w : World) (h : NoLog p w) : Calls Tryd.prog 24 #[.pointer p, .agg #[.int .i64 k, .slice D nd cd]] w fun e w' => e = .returned (.tuple #[.int .i64 0, .int .i64 221]) ∧ Within w w' := by
  obtain ⟨W0, hW0⟩ : ∃ W0, W0 = w.alloc (.cells #[.int .i64 k, .slice D nd cd] 50) := ⟨_, rfl⟩
  have hI0 : Within w W0 := by rw [hW0]; exact (Within.refl w).alloc _
  have IS := Lib.hid (is_no p W0 (h.of hI0)); clear h
  have HI0 := Lib.hid hI0; clear hI0
  go_enter Tryd.func24, Tryd.ntmps24
  go_wp2_with fail
  rw [← hW0]
  clear hW0
  refine IS.out.mono ?_; rintro e1 w1 ⟨rfl, rfl⟩
  go_wp2
  go_ret2
  exact ⟨rfl, HI0.out⟩

set_option maxRecDepth 100000 in
set_option maxHeartbeats 1000000 in
theorem Get_no (n : Int) (p : Option Addr) (w : World) (h : NoLog p w) : Calls Tryd.prog 35 #[.pointer p, .int .i64 n] w fun e w' => e = .returned (.tuple #[.agg #[.int .i64 0, .slice none 0 0], .int .i64 1]) ∧ Within w w' := by
  obtain ⟨Z, hZ⟩ : ∃ Z, Z = w.alloc (.cells #[.int .i64 0, .slice none 0 0] 50) := ⟨_, rfl⟩
  have iZ : Within w Z := by rw [hZ]; exact (Within.refl w).alloc _
  have z0 : Z.cell? ⟨w.heap.size, 0, none⟩ = some (.int .i64 0) := by rw [hZ]; simp
  have z1 : Z.cell? ⟨w.heap.size, 1, none⟩ = some (.slice none 0 0) := by rw [hZ]; simp
  have zf0 : Z.frozen? ⟨w.heap.size, 0, none⟩ = false := by rw [hZ]; simp
  have zf1 : Z.frozen? ⟨w.heap.size, 1, none⟩ = false := by rw [hZ]; simp
  have zs : w.heap.size < Z.heap.size := by rw [hZ]; simp
  have IS := Lib.hid (is_no p Z (h.of iZ)); clear h
  have HI := Lib.hid iZ; clear iZ
  go_enter Tryd.func35, Tryd.ntmps35
  go_wp2_with fail
  rw [← hZ]
  clear hZ
  refine IS.out.mono ?_; rintro e1 w1 ⟨rfl, rfl⟩
  go_wp2
  have hI9 : Within w ((w1.setCell ⟨w.heap.size, 0, none⟩ (.int .i64 0)).setCell ⟨w.heap.size, 1, none⟩ (.slice none 0 0)) := (HI.out.setCell (Nat.le_refl _) _).setCell (Nat.le_refl _) _
  refine bodyPost_ret (v := .tuple #[.agg #[.int .i64 0, .slice none 0 0], .int .i64 1]) (by simp [results, Tryd.results35, go_sem, z0, z1, zf0, zf1, zs]) rfl ⟨rfl, hI9⟩

set_option maxRecDepth 100000 in
set_option maxHeartbeats 1000000 in
theorem Mark_no (p : Option Addr) (w : World) (h : NoLog p w) : Calls Tryd.prog 36 #[.pointer p] w fun e w' => e = .returned (.tuple #[.int .i64 0, .bool false]) ∧ w' = w := by
  have LN := Lib.hid (Len_no p w h); clear h
  go_enter Tryd.func36, Tryd.ntmps36
  go_wp2_with fail
  refine LN.out.mono ?_; rintro e1 w1 ⟨rfl, rfl⟩
  go_wp2
  go_loopw [4] (fun iv wr => iv = .int .i64 (-1) ∧ wr = w1) (fun _ _ => 0)
  case atStart => exact ⟨rfl, rfl⟩
  case round =>
    obtain ⟨rfl, rfl⟩ := hrel
    go_wp2
    go_ret2
    exact ⟨rfl, rfl⟩

set_option maxRecDepth 100000 in
set_option maxHeartbeats 1000000 in
theorem Each1_no (p : Option Addr) (bx bf : Nat) (m : Int) (T : List Yd → Yd → World → World → Prop) (Sp : List Yd → Prop) (M : Nat) : SeqG Fence.wide 2 Tryd.prog 60 #[.pointer (some ⟨bx, 0, none⟩), .pointer (some ⟨bf, 0, none⟩)] Yd.enc (fun _ W => NoLog p W ∧ W.cell? ⟨bx, 0, none⟩ = some (.pointer p) ∧ W.cell? ⟨bf, 0, none⟩ = some (.int .i64 m)) T (fun xs => xs = []) Sp M := by
  intro l J Jx W hJ hJx hG hY h0
  obtain ⟨hp, hbx, hbf⟩ := hG _ _ h0
  have hbxl := World.block_lt_of_cell? _ _ hbx
  have hbfl := World.block_lt_of_cell? _ _ hbf
  have LN := Lib.hid (Len_no p W hp); clear hp
  have HJ := Lib.hid h0; clear h0 hY hG hJ hJx
  have hmx : ¬ max m 0 < 0 := by omega
  have hmd : decide (max m 0 < 0) = false := decide_eq_false hmx
  refine callsIn_of_wp Tryd.func60 rfl trivial ?_ rfl
  simp only [Tryd.ntmps60, List.size_toArray, List.length_cons, List.length_nil, Nat.reduceAdd, Nat.reduceSub, Array.replicate_succ, Array.replicate_zero, List.push_toArray, List.append_toArray, List.nil_append, List.cons_append]
  gi_wp2_with (refine ⟨trivial, ?_⟩; gi_at_call 20; refine (callsIn_wide.2 LN.out).mono ?_; rintro e1 w1 ⟨rfl, hw1⟩; have hw2 := hw1.symm; subst hw2)
  gi_loopw [5] (fun iv wr => iv = .int .i64 (max m 0) ∧ J [] wr) (fun _ _ => 0)
  case atStart => exact ⟨rfl, HJ.out⟩
  case round =>
    obtain ⟨rfl, hJs⟩ := hrel
    have HJS := Lib.hid hJs; clear hJs
    gi_wp2
    go_end0
    exact ⟨⟨_, rfl⟩, .inl ⟨[], rfl, HJS.out⟩⟩

end Go.Proofs.YtpmjlaiafgbjgaaDoor
end

section
namespace Go.Proofs.YtpmjlaiafgbjgaaDoor
open Go.RowKit

set_option maxRecDepth 100000 in
set_option maxHeartbeats 1000000 in
theorem copied_big (k : Int) (A : Option Addr) (c : Nat) (l : List Nat) (hl : l.length ≤ 140737488355328) (w : World) (hr : SlAt w A (u8v l)) : Calls Tryd.prog 25 #[.agg #[.int .i64 k, .slice A l.length c]] w fun e w' => ∃ v, e = .returned (.agg #[.int .i64 k, v]) ∧ OwnB w' w.heap.size v l ∧ Within w w' := by
  obtain ⟨W0, hW0⟩ : ∃ W0, W0 = (w.alloc (.cells #[.int .i64 k, .slice A l.length c] 50)).alloc (.cells #[.int .i64 0, .slice none 0 0] 50) := ⟨_, rfl⟩
  have k0 : W0.cell? ⟨w.heap.size, 0, none⟩ = some (.int .i64 k) := by rw [hW0]; simp
  have k1 : W0.cell? ⟨w.heap.size, 1, none⟩ = some (.slice A l.length c) := by rw [hW0]; simp
  have z0 : W0.cell? ⟨w.heap.size + 1, 0, none⟩ = some (.int .i64 0) := by rw [hW0]; simp
  have z1 : W0.cell? ⟨w.heap.size + 1, 1, none⟩ = some (.slice none 0 0) := by rw [hW0]; simp
  have zf : ∀ o, W0.frozen? ⟨w.heap.size + 1, o, none⟩ = false := fun o => by rw [hW0, show w.heap.size + 1 = (w.alloc (.cells #[.int .i64 k, .slice A l.length c] 50)).heap.size by simp]; exact World.frozen?_alloc_new _ _ _ _
  have kb : w.heap.size < W0.heap.size := by rw [hW0]; simp; omega
  have zb : w.heap.size + 1 < W0.heap.size := by rw [hW0]; simp
  have hww : Within w W0 := by rw [hW0]; exact ((Within.refl w).alloc _).alloc _
  have HWW := Lib.hid hww; have HS := Lib.hid (hr.of hww); clear hww hr
  go_enter Tryd.func25, Tryd.ntmps25
  go_wp2_with fail
  rw [← hW0]
  clear hW0
  refine wp_region_schG (fun W => W.cell? ⟨w.heap.size, 0, none⟩ = some (.int .i64 k) ∧ W.cell? ⟨w.heap.size, 1, none⟩ = some (.slice A l.length c) ∧ (∀ o, W.frozen? ⟨w.heap.size + 1, o, none⟩ = false) ∧ W.cell? ⟨w.heap.size + 1, 0, none⟩ = some (.int .i64 0) ∧ W.cell? ⟨w.heap.size + 1, 1, none⟩ = some (.slice none 0 0) ∧ w.heap.size < W.heap.size ∧ w.heap.size + 1 < W.heap.size ∧ W = W0) 7 (.firm 0 (.firm 1 (.firm 3 (.firm 4 (.one 2 (.one 5 (.firm 6 (.one 7 .nil)))))))) (by kernel_rfl) (by kernel_rfl) ⟨k0, k1, zf, z0, z1, kb, zb, rfl⟩ ?_
  rintro w0 ⟨k0, k1, zf, z0, z1, kb, zb, rfl⟩
  try simp only [Act.put, List.setIfInBounds_toArray, List.set_cons_zero, List.set_cons_succ]
  iterate 4
    apply sch_firm rfl rfl (by repeat (first | with_reducible exact Within.refl _ | with_reducible assumption | with_reducible refine Within.alloc ?_ _ | with_reducible refine Within.drew ?_ | with_reducible refine Within.drewN ?_ _ | with_reducible refine Within.setCell ?_ (by first | (simp; done) | (simp; omega)) _ | with_reducible refine Within.trans ?_ (by assumption)))
    · intro wq hq
      have hcq := hq.cells
      clear hq
      go_simp
      rfl
    try simp only [Act.put, List.setIfInBounds_toArray, List.set_cons_zero, List.set_cons_succ]
  refine sch_one rfl rfl (fun K hK => ?_)
  go_simp
  refine hK _ _ (fun _ => (by repeat (first | with_reducible exact Within.refl _ | with_reducible assumption | with_reducible refine Within.alloc ?_ _ | with_reducible refine Within.drew ?_ | with_reducible refine Within.drewN ?_ _ | with_reducible refine Within.setCell ?_ (by first | (simp; done) | (simp; omega)) _ | with_reducible refine Within.trans ?_ (by assumption)))) ?_
  clear hK K
  try simp only [Act.put, List.setIfInBounds_toArray, List.set_cons_zero, List.set_cons_succ]
  refine sch_one rfl rfl (fun K hK => ?_)
  have hin2 := ((Within.refl w0).drew).alloc (.cells #[] 5)
  obtain ⟨v5, w5, hrun, hO5, hB5⟩ := run_app_u8 _ w0.heap.size _ [] l (OwnB.lit w0.drew w0.heap.size (Nat.le_refl _) [] (by simp)) A c (HS.out.of hin2) (by rw [List.length_nil]; omega) hin2.size
  rw [List.nil_append] at hO5
  have hX5 : Within w0 w5 := Below.trans hin2 hB5
  have RUN := Lib.hid hrun; have HO5 := Lib.hid hO5; clear hrun hO5 hB5 hin2
  refine op_append_run (.tmp 5) (.tmp 7) 22 rfl _ _ rfl rfl RUN.out ?_
  obtain ⟨A5, c5, rfl, hx5, hy5, hz5⟩ := HO5.out.form
  clear hx5 hy5 hz5
  refine hK _ _ (fun _ => (by repeat (first | with_reducible exact Within.refl _ | with_reducible assumption | with_reducible refine Within.alloc ?_ _ | with_reducible refine Within.drew ?_ | with_reducible refine Within.drewN ?_ _ | with_reducible refine Within.setCell ?_ (by first | (simp; done) | (simp; omega)) _ | with_reducible refine Within.trans ?_ (by assumption)))) ?_
  clear hK K
  try simp only [Act.put, List.setIfInBounds_toArray, List.set_cons_zero, List.set_cons_succ]
  apply sch_firm rfl rfl (by repeat (first | with_reducible exact Within.refl _ | with_reducible assumption | with_reducible refine Within.alloc ?_ _ | with_reducible refine Within.drew ?_ | with_reducible refine Within.drewN ?_ _ | with_reducible refine Within.setCell ?_ (by first | (simp; done) | (simp; omega)) _ | with_reducible refine Within.trans ?_ (by assumption)))
  · intro wq hq
    have hcq := hq.cells
    clear hq
    go_simp
    rfl
  try simp only [Act.put, List.setIfInBounds_toArray, List.set_cons_zero, List.set_cons_succ]
  refine sch_one rfl rfl (fun K hK => ?_)
  have f5 : w5.frozen? ⟨w.heap.size + 1, 0, none⟩ = false := (hX5.frozens _ _ zb).trans (zf 0)
  have f6 : w5.frozen? ⟨w.heap.size + 1, 1, none⟩ = false := (hX5.frozens _ _ zb).trans (zf 1)
  have y0 := (hX5.cells _ 0 zb).trans z0
  have y1 := (hX5.cells _ 1 zb).trans z1
  have zb5 := Nat.lt_of_lt_of_le zb hX5.size
  go_simp
  refine hK _ _ (fun h => absurd h (by decide)) ?_
  clear hK K
  try simp only [Act.put, List.setIfInBounds_toArray, List.set_cons_zero, List.set_cons_succ]
  refine sch_nil ?_
  go_wp2
  obtain ⟨n5, hn5⟩ : ∃ n5, n5 = l.length := ⟨_, rfl⟩
  refine bodyPost_ret (v := .agg #[.int .i64 k, .slice A5 l.length c5]) (by simp [results, Tryd.results25, go_sem, y0, y1, f5, f6]) rfl ⟨_, rfl, ?_, ?_⟩
  · exact ownsRow_keep (ownsRow_keep (HO5.out.less HWW.out.size) (fun j hj => Below.heap_setCell _ _ _ _ (by have := (HO5.out.lt j hj).1; simp; omega))) (fun j hj => Below.heap_setCell _ _ _ _ (by have := (HO5.out.lt j hj).1; simp; omega))
  · exact (((HWW.out.trans hX5).setCell (by simp) _).setCell (by simp) _)
end Go.Proofs.YtpmjlaiafgbjgaaDoor
end

section
namespace Go.Proofs.YtpmjlaiafgbjgaaDoor
open Go.RowKit

attribute [local go_sem] Oper.semAt_some
theorem SlAt.away {w w' : World} {row : Option Nat} {A : Option Addr} {xs : List Value} (h : SlAt w A xs) (hg : w.grownBy w' row) (hr : ∀ r, row = some r → ∃ o : Obj, w.heap[r]? = some o ∧ o.isCells = false) : SlAt w' A xs := fun hn => by
  obtain ⟨ad, e, hl, hx⟩ := h hn
  exact ⟨ad, e, Nat.lt_of_lt_of_le hl hg.size, fun j u hj => cell_kept (hx j u hj) hg hr⟩
/-- what the law's cells hold while it goes round -/
structure NilC (w : World) (br bv zb sb : Nat) (k : Int) (D : Option Addr) (d : List Nat) (nd cd : Nat) (W : World) : Prop where
  r0 : W.cell? ⟨br, 0, none⟩ = some (.int .i64 k)
  r1 : W.cell? ⟨br, 1, none⟩ = some (.slice D nd cd)
  v : Boxed W bv 4 (.bool false)
  z : W.cell? ⟨zb, 0, none⟩ = some (.int .i64 0)
  s0 : W.cell? ⟨sb, 0, none⟩ = some (.pointer none)
  s1 : W.cell? ⟨sb, 1, none⟩ = some (.pointer (some ⟨zb, 0, none⟩))
  dat : SlAt W D (u8v d)
  bel : Below w.heap.size w W
theorem NilC.grown {w : World} {br bv zb sb : Nat} {k : Int} {D : Option Addr} {d : List Nat} {nd cd : Nat} {W W' : World} {row : Option Nat} (h : NilC w br bv zb sb k D d nd cd W) (hg : W.grownBy W' row) (hr : ∀ r, row = some r → w.heap.size ≤ r ∧ ∃ o : Obj, W.heap[r]? = some o ∧ o.isCells = false) : NilC w br bv zb sb k D d nd cd W' := by
  have hr' : ∀ r, row = some r → ∃ o : Obj, W.heap[r]? = some o ∧ o.isCells = false := fun r e => (hr r e).2
  refine ⟨cell_kept h.r0 hg hr', cell_kept h.r1 hg hr', h.v.kept hg (fun e => ?_), cell_kept h.z hg hr', cell_kept h.s0 hg hr', cell_kept h.s1 hg hr', h.dat.away hg hr', h.bel.grown hg h.bel.size (fun j e => (hr j e).1)⟩
  obtain ⟨o, ho, hc⟩ := hr' _ e.symm
  rw [show W.heap[bv]? = _ from h.v] at ho
  injection ho with ho
  rw [← ho] at hc
  cases hc
theorem NilC.of {w : World} {br bv zb sb : Nat} {k : Int} {D : Option Addr} {d : List Nat} {nd cd : Nat} {W W' : World} (h : NilC w br bv zb sb k D d nd cd W) (hi : Within W W') : NilC w br bv zb sb k D d nd cd W' := h.grown (within_grown hi) (fun r e => by cases e)

set_option maxRecDepth 100000 in
set_option maxHeartbeats 8000000 in
theorem jnil_walk (k : Int) (D : Option Addr) (cd : Nat) (d : List Nat) (hb : Bytes d) (hdl : d.length ≤ 140737488355328) (hc : d.length ≤ cd) (n : Int) (w : World) (hT : FmS w) (hr : SlAt w D (u8v d)) : Calls Tryd.prog 10 #[.agg #[.int .i64 k, .slice D d.length cd], .int .i64 n] w fun e w' => e = .returned (.bool true) ∧ Within w w' := by
  obtain ⟨W0, hW0⟩ : ∃ W, W = (w.alloc (.cells #[.int .i64 k, .slice D d.length cd] 50)).alloc (.cells #[.bool false] 4) := ⟨_, rfl⟩
  have i0 : Within w W0 := by rw [hW0]; exact ((Within.refl w).alloc _).alloc _
  have x0 : W0.cell? ⟨w.heap.size, 0, none⟩ = some (.int .i64 k) := by rw [hW0]; simp
  have x1 : W0.cell? ⟨w.heap.size, 1, none⟩ = some (.slice D d.length cd) := by rw [hW0]; simp
  have xv : Boxed W0 (w.heap.size + 1) 4 (.bool false) := by rw [hW0]; have := Boxed.new (w.alloc (.cells #[.int .i64 k, .slice D d.length cd] 50)) 4 (.bool false); rwa [World.size_alloc] at this
  have AW := Lib.hid (jawake_true W0 (hT.of i0))
  have CP := Lib.hid (fun W (h : SlAt W D (u8v d)) => copied_big k D cd d hdl W h)
  obtain ⟨nd, hdd⟩ : ∃ x, d.length = x := ⟨_, rfl⟩
  rw [hdd] at x1 CP hW0 ⊢
  have HDL := Lib.hid hdd
  have HR := Lib.hid (hr.of i0)
  have HI0 := Lib.hid i0; have XV := Lib.hid xv; clear hdd hr hT hdl i0 xv
  refine (callsIn_wide (n := 3)).1 ?_
  refine callsIn_of_wp_marks Tryd.func10 rfl trivial ?_ rfl
  simp only [Tryd.ntmps10, List.size_toArray, List.length_cons, List.length_nil, Nat.reduceAdd, Nat.reduceSub, Array.replicate_succ, Array.replicate_zero, List.push_toArray, List.append_toArray, List.nil_append, List.cons_append]
  gi_wp2_with (refine ⟨trivial, ?_⟩; gi_at_call 11; rw [← hW0]; refine (callsIn_wide.2 AW.out).mono ?_; rintro e1 w1 ⟨rfl, h1⟩)
  obtain ⟨zb, hzb⟩ : ∃ z, w1.heap.size = z := ⟨_, rfl⟩
  obtain ⟨W2, hW2⟩ : ∃ W, W = (w1.alloc (.cells #[.int .i64 0, .slice none 0 0, .slice none 0 0, .slice none 0 0] 77)).alloc (.cells #[.pointer none, .pointer (some ⟨zb, 0, none⟩)] 24) := ⟨_, rfl⟩
  have i2 : Within w1 W2 := by rw [hW2]; exact ((Within.refl w1).alloc _).alloc _
  have i02 : Within W0 W2 := h1.trans i2
  have C0 : Hid (NilC w w.heap.size (w.heap.size + 1) zb (zb + 1) k D d nd cd W2) := Lib.hid ⟨(i02.cells _ _ (World.block_lt_of_cell? _ _ x0)).trans x0, (i02.cells _ _ (World.block_lt_of_cell? _ _ x1)).trans x1, XV.out.kept (within_grown i02) (fun e => by cases e), by rw [hW2, ← hzb]; simp, by rw [hW2, ← hzb]; simp, by rw [hW2, ← hzb]; simp, HR.out.of i02, HI0.out.trans i02⟩
  rw [hzb]
  rw [← hW2]
  clear hW0 hW2 hzb i2 i02 h1 x0 x1 HR XV AW hb hc
  refine wpIn_loop_rounds 3 ?_
  have FN : ∀ (fn : Nat) (B : Array Value) (w : World), (binOp .eql 83 (.func (.func fn) #[] B) .nilFunc).run Tryd.prog w = .ok (.bool false) w := fun _ _ _ => by kernel_rfl
  rw [roundsIn_succ]
  have ca0 := C0.out.s0; have cal := World.block_lt_of_cell? _ _ ca0; have da0 := C0.out.r0; have da1 := C0.out.r1; have dal := World.block_lt_of_cell? _ _ da0
  gi_wp2_with (refine ⟨trivial, ?_⟩; gi_at_call 25; refine (callsIn_wide.2 (CP.out _ C0.out.dat)).mono ?_; rintro e1 w1a ⟨v1a, rfl, hO1a, h1a⟩; obtain ⟨A1a, k1a, rfl, _, _, _⟩ := hO1a.form; rw [HDL.out]; have C1a := Lib.hid (C0.out.of h1a); clear hO1a; have B1a := Lib.hid h1a; clear h1a)
  gi_wp2_with (refine ⟨trivial, ?_⟩; gi_at_call 24; refine (callsIn_wide.2 (Append_no A1a nd k1a k none _ (.inl rfl))).mono ?_; rintro e2 w2a ⟨rfl, h2a⟩; have C2a := Lib.hid (C1a.out.of h2a); have B2a := Lib.hid (B1a.out.trans h2a); clear h2a)
  gi_wp2_with (refine ⟨trivial, ?_⟩; gi_at_call 35; refine (callsIn_wide.2 (Get_no n none _ (.inl rfl))).mono ?_; rintro e3 w3a ⟨rfl, h3a⟩; have C3a := Lib.hid (C2a.out.of (h3a.alloc (.cells #[.int .i64 0, .slice none 0 0] 50))); have B3a := Lib.hid (B2a.out.trans (h3a.alloc (.cells #[.int .i64 0, .slice none 0 0] 50))); clear h3a)
  gi_wp2_with (refine ⟨trivial, ?_⟩; gi_at_call 36; refine (callsIn_wide.2 (Mark_no none _ (.inl rfl))).mono ?_; rintro e4 w4a ⟨rfl, hw4a⟩; have hw5a := hw4a.symm; subst hw5a)
  gi_wp2_with (refine ⟨trivial, ?_⟩; gi_at_call 37; refine (callsIn_wide.2 (Each_any none n _)).mono ?_; rintro e5 w5a ⟨rfl, rfl⟩)
  obtain ⟨qa, hqa⟩ : ∃ q, w3a.heap.size = q := ⟨_, rfl⟩
  obtain ⟨Xa, hXa⟩ : ∃ V, V = w3a.alloc (.cells #[.int .i64 0, .slice none 0 0] 50) := ⟨_, rfl⟩
  have s1a : Xa.heap.size = qa + 1 := by rw [hXa]; simp [hqa]
  obtain ⟨Ya, hYa⟩ : ∃ V, V = Xa.alloc (.cells #[.pointer (none)] 24) := ⟨_, rfl⟩
  have s2a : Ya.heap.size = qa + 1 + 1 := by rw [hYa]; simp [s1a]
  obtain ⟨Va, hVa⟩ : ∃ V, V = Ya.alloc (.cells #[.int .i64 n] 3) := ⟨_, rfl⟩
  have iVa : Within Xa Va := by rw [hVa, hYa]; exact ((Within.refl _).alloc _).alloc _
  have qxa : Va.cell? ⟨qa + 1, 0, none⟩ = some (.pointer (none)) := by rw [hVa]; refine (Within.cells ((Within.refl Ya).alloc _) _ _ (by omega)).trans ?_; rw [hYa, ← s1a]; simp
  have qfa : Va.cell? ⟨qa + 1 + 1, 0, none⟩ = some (.int .i64 n) := by rw [hVa, ← s2a]; simp
  rw [← hXa] at C3a B3a
  have C4a := Lib.hid (C3a.out.of iVa); have B4a := Lib.hid (B3a.out.trans iVa)
  rw [hqa]
  rw [← hXa, ← hYa, ← hVa]
  clear hVa iVa hqa hXa hYa s1a s2a
  refine range_G rfl (by decide) (gf := 60) (lb := #[.pointer (some ⟨qa + 1, 0, none⟩), .pointer (some ⟨qa + 1 + 1, 0, none⟩)]) rfl trivial (enters_of Tryd.func60 (by kernel_rfl) rfl)
    (Each1_no (none) (qa + 1) (qa + 1 + 1) n (fun _ _ _ _ => False) (fun _ => False) 0) (fun _ => rfl)
    (fun pre W => (pre = [] ∧ NilC w w.heap.size (w.heap.size + 1) zb (zb + 1) k D d nd cd W) ∧ W.cell? ⟨qa + 1, 0, none⟩ = some (.pointer (none)) ∧ W.cell? ⟨qa + 1 + 1, 0, none⟩ = some (.int .i64 n) ∧ Within Va Va) (fun _ _ _ => False)
    (fun s A B row hs hg hr => ⟨⟨hs.1.1, hs.1.2.grown hg (fun r e => ⟨Nat.le_trans C4a.out.bel.size (hr r e).1, (hr r e).2⟩)⟩, cell_kept hs.2.1 hg (fun r e => (hr r e).2), cell_kept hs.2.2.1 hg (fun r e => (hr r e).2), Within.refl _⟩)
    (fun c s A B row hs _ _ => hs) (fun pre W h => ⟨.inl rfl, h.2.1, h.2.2.1⟩)
    ⟨⟨rfl, C4a.out⟩, qxa, qfa, Within.refl _⟩ (fun _ _ _ _ => False) (fun _ _ _ s A B row hs _ _ => hs) ?_ ?_ ?_ ?_
  · intro l pre x W0 W K _ _ h _ _; exact h.elim
  · intro l pre x a' W _ h _; exact h.elim
  rotate_left
  · intro D' c pre W _ _ h _; exact h.elim
  rintro Da xs Wa hDa hSa ⟨⟨_, hCa⟩, _, _, _⟩ hKa
  have C5a := Lib.hid hCa; have KDa := Lib.hid hKa;  clear hCa hKa hSa qxa qfa
  gi_wp2_with (refine ⟨trivial, ?_⟩; gi_at_call 38; refine (callsIn_wide.2 (Cut_no none _ (.inl rfl) n)).mono ?_; rintro e6 w6a ⟨rfl, hw6a⟩; have hw7a := hw6a.symm; subst hw7a)
  gi_wp2_with (refine ⟨trivial, ?_⟩; gi_at_call 13; refine (callsIn_wide.2 (Bytes_no none _ (.inl rfl))).mono ?_; rintro e7 w7a ⟨rfl, hw8a⟩; have hw9a := hw8a.symm; subst hw9a)
  gi_wp2_with (refine ⟨trivial, ?_⟩; gi_at_call 20; refine (callsIn_wide.2 (Len_no none _ (.inl rfl))).mono ?_; rintro e8 w8a ⟨rfl, hwaa⟩; have hwba := hwaa.symm; subst hwba)
  gi_wp2_with (refine ⟨trivial, ?_⟩; gi_at_call 39; refine (callsIn_wide.2 (Clone_no none _ (.inl rfl))).mono ?_; rintro e9 w9a ⟨rfl, hwca⟩; have hwda := hwca.symm; subst hwda)
  rw [roundsIn_succ]
  have cb0 := C5a.out.s1; have cbl := World.block_lt_of_cell? _ _ cb0; have db0 := C5a.out.r0; have db1 := C5a.out.r1; have dbl := World.block_lt_of_cell? _ _ db0
  gi_wp2_with (refine ⟨trivial, ?_⟩; gi_at_call 25; refine (callsIn_wide.2 (CP.out _ C5a.out.dat)).mono ?_; rintro e1 w1b ⟨v1b, rfl, hO1b, h1b⟩; obtain ⟨A1b, k1b, rfl, _, _, _⟩ := hO1b.form; rw [HDL.out]; have C1b := Lib.hid (C5a.out.of h1b); clear hO1b; have B1b := Lib.hid h1b; clear h1b)
  gi_wp2_with (refine ⟨trivial, ?_⟩; gi_at_call 24; refine (callsIn_wide.2 (Append_no A1b nd k1b k (some ⟨zb, 0, none⟩) _ (.inr ⟨zb, rfl, C1b.out.z⟩))).mono ?_; rintro e2 w2b ⟨rfl, h2b⟩; have C2b := Lib.hid (C1b.out.of h2b); have B2b := Lib.hid (B1b.out.trans h2b); clear h2b)
  gi_wp2_with (refine ⟨trivial, ?_⟩; gi_at_call 35; refine (callsIn_wide.2 (Get_no n (some ⟨zb, 0, none⟩) _ (.inr ⟨zb, rfl, C2b.out.z⟩))).mono ?_; rintro e3 w3b ⟨rfl, h3b⟩; have C3b := Lib.hid (C2b.out.of (h3b.alloc (.cells #[.int .i64 0, .slice none 0 0] 50))); have B3b := Lib.hid (B2b.out.trans (h3b.alloc (.cells #[.int .i64 0, .slice none 0 0] 50))); clear h3b)
  gi_wp2_with (refine ⟨trivial, ?_⟩; gi_at_call 36; refine (callsIn_wide.2 (Mark_no (some ⟨zb, 0, none⟩) _ (.inr ⟨zb, rfl, C3b.out.z⟩))).mono ?_; rintro e4 w4b ⟨rfl, hw4b⟩; have hw5b := hw4b.symm; subst hw5b)
  gi_wp2_with (refine ⟨trivial, ?_⟩; gi_at_call 37; refine (callsIn_wide.2 (Each_any (some ⟨zb, 0, none⟩) n _)).mono ?_; rintro e5 w5b ⟨rfl, rfl⟩)
  obtain ⟨qb, hqb⟩ : ∃ q, w3b.heap.size = q := ⟨_, rfl⟩
  obtain ⟨Xb, hXb⟩ : ∃ V, V = w3b.alloc (.cells #[.int .i64 0, .slice none 0 0] 50) := ⟨_, rfl⟩
  have s1b : Xb.heap.size = qb + 1 := by rw [hXb]; simp [hqb]
  obtain ⟨Yb, hYb⟩ : ∃ V, V = Xb.alloc (.cells #[.pointer ((some ⟨zb, 0, none⟩))] 24) := ⟨_, rfl⟩
  have s2b : Yb.heap.size = qb + 1 + 1 := by rw [hYb]; simp [s1b]
  obtain ⟨Vb, hVb⟩ : ∃ V, V = Yb.alloc (.cells #[.int .i64 n] 3) := ⟨_, rfl⟩
  have iVb : Within Xb Vb := by rw [hVb, hYb]; exact ((Within.refl _).alloc _).alloc _
  have qxb : Vb.cell? ⟨qb + 1, 0, none⟩ = some (.pointer ((some ⟨zb, 0, none⟩))) := by rw [hVb]; refine (Within.cells ((Within.refl Yb).alloc _) _ _ (by omega)).trans ?_; rw [hYb, ← s1b]; simp
  have qfb : Vb.cell? ⟨qb + 1 + 1, 0, none⟩ = some (.int .i64 n) := by rw [hVb, ← s2b]; simp
  rw [← hXb] at C3b B3b
  have C4b := Lib.hid (C3b.out.of iVb); have B4b := Lib.hid (B3b.out.trans iVb)
  have KDab := Lib.hid ((B4b.out.block _ (Array.getElem?_eq_some_iff.1 KDa.out).1).trans KDa.out)
  rw [hqb]
  rw [← hXb, ← hYb, ← hVb]
  clear hVb iVb hqb hXb hYb s1b s2b
  refine range_G rfl (by decide) (gf := 60) (lb := #[.pointer (some ⟨qb + 1, 0, none⟩), .pointer (some ⟨qb + 1 + 1, 0, none⟩)]) rfl trivial (enters_of Tryd.func60 (by kernel_rfl) rfl)
    (Each1_no ((some ⟨zb, 0, none⟩)) (qb + 1) (qb + 1 + 1) n (fun _ _ _ _ => False) (fun _ => False) 0) (fun _ => rfl)
    (fun pre W => (pre = [] ∧ NilC w w.heap.size (w.heap.size + 1) zb (zb + 1) k D d nd cd W) ∧ W.cell? ⟨qb + 1, 0, none⟩ = some (.pointer ((some ⟨zb, 0, none⟩))) ∧ W.cell? ⟨qb + 1 + 1, 0, none⟩ = some (.int .i64 n) ∧ Within Vb Vb ∧ W.heap[Da]? = some (.deferred (some []))) (fun _ _ _ => False)
    (fun s A B row hs hg hr => ⟨⟨hs.1.1, hs.1.2.grown hg (fun r e => ⟨Nat.le_trans C4b.out.bel.size (hr r e).1, (hr r e).2⟩)⟩, cell_kept hs.2.1 hg (fun r e => (hr r e).2), cell_kept hs.2.2.1 hg (fun r e => (hr r e).2), Within.refl _, (hg.block _ (Array.getElem?_eq_some_iff.1 hs.2.2.2.2).1 (fun e => by have h1 := (hr _ e.symm).1; have h2 := (Array.getElem?_eq_some_iff.1 KDab.out).1; omega)).trans hs.2.2.2.2⟩)
    (fun c s A B row hs _ _ => hs) (fun pre W h => ⟨.inr ⟨zb, rfl, h.1.2.z⟩, h.2.1, h.2.2.1⟩)
    ⟨⟨rfl, C4b.out⟩, qxb, qfb, Within.refl _, KDab.out⟩ (fun _ _ _ _ => False) (fun _ _ _ s A B row hs _ _ => hs) ?_ ?_ ?_ ?_
  · intro l pre x W0 W K _ _ h _ _; exact h.elim
  · intro l pre x a' W _ h _; exact h.elim
  rotate_left
  · intro D' c pre W _ _ h _; exact h.elim
  rintro Db xs Wb hDb hSb ⟨⟨_, hCb⟩, _, _, _, kk⟩ hKb
  have C5b := Lib.hid hCb; have KDb := Lib.hid hKb; have KDabb := Lib.hid kk; clear kk; clear hCb hKb hSb qxb qfb
  gi_wp2_with (refine ⟨trivial, ?_⟩; gi_at_call 38; refine (callsIn_wide.2 (Cut_no (some ⟨zb, 0, none⟩) _ (.inr ⟨zb, rfl, C5b.out.z⟩) n)).mono ?_; rintro e6 w6b ⟨rfl, hw6b⟩; have hw7b := hw6b.symm; subst hw7b)
  gi_wp2_with (refine ⟨trivial, ?_⟩; gi_at_call 13; refine (callsIn_wide.2 (Bytes_no (some ⟨zb, 0, none⟩) _ (.inr ⟨zb, rfl, C5b.out.z⟩))).mono ?_; rintro e7 w7b ⟨rfl, hw8b⟩; have hw9b := hw8b.symm; subst hw9b)
  gi_wp2_with (refine ⟨trivial, ?_⟩; gi_at_call 20; refine (callsIn_wide.2 (Len_no (some ⟨zb, 0, none⟩) _ (.inr ⟨zb, rfl, C5b.out.z⟩))).mono ?_; rintro e8 w8b ⟨rfl, hwab⟩; have hwbb := hwab.symm; subst hwbb)
  gi_wp2_with (refine ⟨trivial, ?_⟩; gi_at_call 39; refine (callsIn_wide.2 (Clone_no (some ⟨zb, 0, none⟩) _ (.inr ⟨zb, rfl, C5b.out.z⟩))).mono ?_; rintro e9 w9b ⟨rfl, hwcb⟩; have hwdb := hwcb.symm; subst hwdb)
  rw [roundsIn_succ]
  have v0 := C5b.out.v.cell; have vf := C5b.out.v.frozen; have vl := C5b.out.v.lt
  gi_wp2
  obtain ⟨R1, hR1⟩ : ∃ R, R = Wb.setCell ⟨w.heap.size + 1, 0, none⟩ (.bool true) := ⟨_, rfl⟩
  rw [← hR1]
  have l1 := (Array.getElem?_eq_some_iff.1 KDab.out).1
  have hne : Da ≠ Db := by omega
  have hb1 := C5b.out.v.lt
  have hva := C4a.out.bel.size
  have hvb := C4b.out.bel.size
  have kb1 : R1.heap[Db]? = some (.deferred (some [])) := by rw [hR1]; exact (KeepsOthers.setCell _ _ _).same Db _ KDb.out rfl
  have ka1 : R1.heap[Da]? = some (.deferred (some [])) := by rw [hR1]; exact (KeepsOthers.setCell _ _ _).same Da _ KDabb.out rfl
  have ka2 : (R1.putObj Db (.deferred none)).heap[Da]? = some (.deferred (some [])) := (World.putObj_heap_other hne).trans ka1
  have x1 : R1.cell? ⟨w.heap.size + 1, 0, none⟩ = some (.bool true) := by rw [hR1]; exact World.cell?_setCell_same _ _ _ v0
  have x2 := cell_kept x1 (grownBy_putObj' R1 Db (.deferred none)) (fun r e => by cases e; exact ⟨_, kb1, rfl⟩)
  have x3 := cell_kept x2 (grownBy_putObj' _ Da (.deferred none)) (fun r e => by cases e; exact ⟨_, ka2, rfl⟩)
  have x3l := World.block_lt_of_cell? _ _ x3
  have B1 : Below w.heap.size w R1 := by rw [hR1]; exact C5b.out.bel.setCell (p := ⟨w.heap.size + 1, 0, none⟩) (by show _ ≤ w.heap.size + 1; omega) _
  have B2 := B1.trans (belowK_b (w := w) (Nat.le_refl _) R1 Db _ (.deferred none) (by omega) kb1 rfl rfl)
  have B3 := B2.trans (belowK_b (w := w) (Nat.le_refl _) _ Da _ (.deferred none) (by omega) ka2 rfl rfl)
  refine ⟨by simp, .inl ⟨_, _, rfl, run_takeDeferred kb1, ?_⟩⟩
  refine ⟨by simp, .inl ⟨_, _, rfl, run_takeDeferred ka2, ?_⟩⟩
  obtain ⟨R3, hR3⟩ : ∃ R, R = (R1.putObj Db (.deferred none)).putObj Da (.deferred none) := ⟨_, rfl⟩
  rw [← hR3] at x3 x3l B3 ⊢
  exact ⟨_, by simp [results, Tryd.results10, go_sem, x3, x3l], rfl, B3⟩

end Go.Proofs.YtpmjlaiafgbjgaaDoor
end

section
namespace Go.Proofs.YtpmjlaiafgbjgaaDoor.Base
open Go.ChangeShapes Go.WideShapes Go.ChangeAt Go.RowKit

theorem own : ownKnob Tryd.prog.godebug = none := by kernel_rfl
theorem laidOut : laidOutB Tryd.prog = true := by kernel_rfl
theorem gS : Tryd.prog.globalNamed "binnacle/convert.single" = some 1 := by kernel_rfl
theorem gST : (Tryd.prog.globals[1]?).map (·.type) = some 148 := by kernel_rfl
theorem cellsI : Tryd.prog.cellsOf 3 = 1 := by kernel_rfl

theorem fmt_cells {W : World} {name : String} {g : Nat} {a b c : Int} {rest : List (String × DataW Unit)} {ps : List MemPlace}
    (hg : Tryd.prog.globalNamed name = some g) (hty : (Tryd.prog.globals[g]?).map (·.type) = some 148)
    (h : DataW.LaidVars Tryd.prog W ((name, .agg [.lit (.int .i64 a), .lit (.int .i64 b), .lit (.int .i64 c)]) :: rest) ps) :
    (W.cell? ⟨g, 0, none⟩ = some (.int .i64 a) ∧ W.cell? ⟨g, 1, none⟩ = some (.int .i64 b) ∧ W.cell? ⟨g, 2, none⟩ = some (.int .i64 c)) ∧ ∃ q, DataW.LaidVars Tryd.prog W rest q := by
  obtain ⟨g', t', cs, fuel, p, q, hg', ht', hvar, hd, hr, _⟩ := h
  obtain rfl := Option.some.inj (hg.symm.trans hg')
  obtain rfl := Option.some.inj (hty.symm.trans ht')
  obtain ⟨y0, y1, y2, n, hx, hl, h0, h1, h2⟩ := Go.Deep.trod_struct3 Tryd.underlying148 hd
  obtain ⟨c0, e0, x0, _⟩ := DataW.trod_int Tryd.underlying3 h0
  obtain ⟨c1, e1, x1, _⟩ := DataW.trod_int Tryd.underlying3 h1
  obtain ⟨c2, e2, x2, _⟩ := DataW.trod_int Tryd.underlying3 h2
  subst x0 x1 x2
  have hx1 := congrArg Prod.fst hx
  simp at hx1
  obtain ⟨rfl, rfl, rfl⟩ := hx1
  have v := World.var?_cell hg hvar
  refine ⟨⟨?_, ?_, ?_⟩, q, hr⟩
  · rw [v 0]
    have := congrArg (·[0]?) e0
    simpa [cellsI, List.getElem?_take, List.getElem?_drop] using this
  · rw [v 1]
    have := congrArg (·[0]?) e1
    simpa [cellsI, List.getElem?_take, List.getElem?_drop] using this
  · rw [v 2]
    have := congrArg (·[0]?) e2
    simpa [cellsI, List.getElem?_take, List.getElem?_drop] using this

theorem fmS {W : World} {rest : List (String × DataW Unit)} (h : laidMet Tryd.prog (("binnacle/convert.single", Rows.laid_binnacle_convert_single) :: rest) W) : FmS W := by
  obtain ⟨ps, h1, _⟩ := h
  exact (fmt_cells gS gST h1).1
theorem nat_of_u32 {n : Int} (h : (Lit.int .u32 n).wf = true) : ∃ a : Nat, n = a ∧ a < 4294967296 := by
  simp only [Lit.wf, Bool.and_eq_true, decide_eq_true_eq] at h
  have h1 : (0 : Int) ≤ n := h.1
  have h2 : n ≤ 4294967295 := h.2
  exact ⟨n.toNat, by omega, by omega⟩
theorem int_of_i64 {n : Int} (h : (Lit.int .i64 n).wf = true) : -9223372036854775808 ≤ n ∧ n < 9223372036854775808 := by
  simp only [Lit.wf, Bool.and_eq_true, decide_eq_true_eq] at h
  have h1 : (-9223372036854775808 : Int) ≤ n := h.1
  have h2 : n ≤ 9223372036854775807 := h.2
  exact ⟨h1, by omega⟩

/-- a variable's cells, as its initialiser lays them -/
def layVar (g : Nat) (cs : Array Value) (h : Array Obj) : Array Obj := h.modify g fun
  | .cells _ t frozen => .cells cs t frozen
  | o => o
/-- a world for the witness: the settled one, the format as its initialiser lays it -/
noncomputable def laidWorld (os : Os) : World :=
  { World.holding Tryd.prog os ⟨#[], #[], []⟩ with heap := layVar 1 #[.int .i64 24, .int .i64 (-126), .int .i64 127] (World.holding Tryd.prog os ⟨#[], #[], []⟩).heap }

section
variable {H : Type} {enc : TypeId × Value → H} {W : World}
/-- a slice of whole numbers opened, nil or not -/
theorem open_ns {t e : TypeId} {k : IntKind} {y : Nat} (ht : Tryd.prog.underlying t = some (.slice e)) (he : Tryd.prog.underlying e = some (.int k)) (hc : Tryd.prog.cellsOf e = 1) (hy : Tryd.prog.bytesOf e = y) {fuel : Nat} {v : Value} {x : DataW H × List MemPlace}
    (h : DataW.trod enc Tryd.prog W 0 (fun _ => true) true fuel t [v] = some x) (hz : ∀ n ∈ x.1.weights Tryd.prog t, n ≤ reachBytes) :
    ∃ (a0 : Option Addr) (cap : Nat) (zs : List Int), v = .slice a0 zs.length cap ∧ zs.length ≤ cap ∧ zs.length * y ≤ reachBytes ∧ (∀ n ∈ zs, (Lit.int k n).wf = true) ∧ SlAt W a0 (zs.map (Value.int k)) := by
  rcases open_ints ht he hc h with ⟨hcs, hx⟩ | ⟨a, len, cap, zs, hcs, _, hl, hm, hzl, hx, hcell, hwz⟩
  · simp at hcs
    exact ⟨none, 0, [], hcs, Nat.le_refl _, by simp, (fun n hn => absurd hn (by simp)), SlAt.nil⟩
  · simp at hcs
    simp only [if_true] at hzl
    subst hx
    have hlen : (zs.take len).length = len := by rw [List.length_take]; omega
    refine ⟨some a, cap, zs.take len, by rw [hlen]; exact hcs, by rw [hlen]; exact hl, ?_, fun n hn => hwz n (List.mem_of_mem_take hn), fun hn => ?_⟩
    · have hw := hz (cap * y) (by
        rw [DataW.weights, ht]
        refine List.mem_cons.2 (.inl ?_)
        rw [hy, show (lits (H := H) k (zs.take len)).length + (lits (H := H) k (zs.drop len)).length = cap by
          unfold lits; rw [List.length_map, List.length_map, List.length_take, List.length_drop]; omega])
      rw [hlen]
      exact Nat.le_trans (Nat.mul_le_mul_right _ hl) hw
    · rw [List.length_map, hlen] at hn
      have h0 := hcell 0 (by omega)
      refine ⟨a, rfl, by have := World.block_lt_of_cell? _ _ h0; rwa [add_block] at this, fun j u hu => ?_⟩
      rw [List.getElem?_map, Option.map_eq_some_iff] at hu
      obtain ⟨z, hz1, rfl⟩ := hu
      obtain ⟨hj, hz2⟩ := List.getElem?_eq_some_iff.1 hz1
      rw [hlen] at hj
      rw [hcell j (by omega)]
      rw [List.getElem_take] at hz2
      simp [List.getD, List.getElem?_eq_getElem (show j < zs.length by omega), hz2]
theorem nats_of {k : IntKind} {m : Nat} (hk : ∀ n : Int, (Lit.int k n).wf = true → 0 ≤ n ∧ n < m) {zs : List Int} (h : ∀ n ∈ zs, (Lit.int k n).wf = true) : ∃ l : List Nat, zs = l.map (fun (x : Nat) => (x : Int)) ∧ ∀ x ∈ l, x < m := by
  refine ⟨zs.map Int.toNat, ?_, fun x hx => ?_⟩
  · rw [List.map_map]
    conv => lhs; rw [← List.map_id zs]
    refine List.map_congr_left fun n hn => ?_
    have := (hk n (h n hn)).1
    simp only [id, Function.comp]; omega
  · obtain ⟨n, hn, rfl⟩ := List.mem_map.1 hx
    have := hk n (h n hn)
    omega
theorem wf_u8 (n : Int) (h : (Lit.int .u8 n).wf = true) : 0 ≤ n ∧ n < (256 : Nat) := by
  simp only [Lit.wf, Bool.and_eq_true, decide_eq_true_eq] at h
  have h1 : (0 : Int) ≤ n := h.1
  have h2 : n ≤ 255 := h.2
  omega
theorem wf_u64 (n : Int) (h : (Lit.int .u64 n).wf = true) : 0 ≤ n ∧ n < (18446744073709551616 : Nat) := by
  simp only [Lit.wf, Bool.and_eq_true, decide_eq_true_eq] at h
  have h1 : (0 : Int) ≤ n := h.1
  have h2 : n ≤ 18446744073709551615 := h.2
  omega
set_option maxRecDepth 100000 in
theorem open_u8 {fuel : Nat} {v : Value} {x : DataW H × List MemPlace} (h : DataW.trod enc Tryd.prog W 0 (fun _ => true) true fuel 22 [v] = some x) (hz : ∀ n ∈ x.1.weights Tryd.prog 22, n ≤ reachBytes) :
    ∃ (a0 : Option Addr) (cap : Nat) (l : List Nat), v = .slice a0 l.length cap ∧ l.length ≤ cap ∧ l.length ≤ 140737488355328 ∧ Bytes l ∧ SlAt W a0 (u8v l) := by
  obtain ⟨a0, cap, zs, h1, h2, h3, h4, h5⟩ := open_ns (y := 1) Tryd.underlying22 Tryd.underlying5 (by kernel_rfl) (by kernel_rfl) h hz
  obtain ⟨l, rfl, hl⟩ := nats_of wf_u8 h4
  rw [List.length_map] at h1 h2 h3
  refine ⟨a0, cap, l, h1, h2, ?_, hl, ?_⟩
  · have : reachBytes = 140737488351232 := rfl
    omega
  · unfold u8v; rw [List.map_map] at h5; exact h5
set_option maxRecDepth 100000 in
theorem open_u64 {fuel : Nat} {v : Value} {x : DataW H × List MemPlace} (h : DataW.trod enc Tryd.prog W 0 (fun _ => true) true fuel 57 [v] = some x) (hz : ∀ n ∈ x.1.weights Tryd.prog 57, n ≤ reachBytes) :
    ∃ (a0 : Option Addr) (cap : Nat) (l : List Nat), v = .slice a0 l.length cap ∧ l.length ≤ cap ∧ l.length * 8 ≤ 140737488355328 ∧ (∀ x ∈ l, x < 18446744073709551616) ∧ SlAt W a0 (u64v l) := by
  obtain ⟨a0, cap, zs, h1, h2, h3, h4, h5⟩ := open_ns (y := 8) Tryd.underlying57 Tryd.underlying110 (by kernel_rfl) (by kernel_rfl) h hz
  obtain ⟨l, rfl, hl⟩ := nats_of wf_u64 h4
  rw [List.length_map] at h1 h2 h3
  refine ⟨a0, cap, l, h1, h2, ?_, hl, ?_⟩
  · have : reachBytes = 140737488351232 := rfl
    omega
  · unfold u64v; rw [List.map_map] at h5; exact h5
set_option maxRecDepth 100000 in
theorem open_bytes {r : Reach} {b0 : Nat} {v : Value} {d : DataW H} {p : List MemPlace} (hv : Value.okWide Tryd.prog W r b0 22 v) (h : DataW.Trod enc Tryd.prog W 0 (fun _ => true) true 22 v d p) (hz : ∀ n ∈ d.weights Tryd.prog 22, n ≤ reachBytes) :
    ∃ (a0 : Option Addr) (cap : Nat) (l : List Nat), v = .slice a0 l.length cap ∧ l.length ≤ cap ∧ l.length ≤ 140737488355328 ∧ Bytes l ∧ SlAt W a0 (u8v l) := by
  obtain ⟨a, len, cap, rfl⟩ := okWide_slice Tryd.underlying22 hv
  obtain ⟨fuel, hf⟩ := h
  exact open_u8 (x := (d, p)) (by simpa [Value.cells] using hf) hz
theorem rdCells : Tryd.prog.cellsOf 59 = 4 := by kernel_rfl
set_option maxRecDepth 100000 in
/-- a law's Reading opened -/
theorem open_rd {r : Reach} {b0 : Nat} {v : Value} {d : DataW H} {p : List MemPlace} (hv : Value.okWide Tryd.prog W r b0 59 v) (h : DataW.Trod enc Tryd.prog W 0 (fun _ => true) true 59 v d p)
    (hz : ∀ n ∈ d.weights Tryd.prog 59, n ≤ reachBytes) :
    ∃ (s : Int) (q t : Nat) (a0 : Option Addr) (cap : Nat) (l : List Nat), v = .agg #[.int .i64 s, .int .u32 (q : Int), .int .u32 (t : Int), .slice a0 l.length cap] ∧ q < 4294967296 ∧ t < 4294967296 ∧ l.length ≤ cap ∧ l.length * 8 ≤ 140737488355328 ∧ (∀ x ∈ l, x < 18446744073709551616) ∧ SlAt W a0 (u64v l) ∧ (-9223372036854775808 ≤ s ∧ s < 9223372036854775808) := by
  obtain ⟨v0, v1, v2, v3, y0, y1, y2, y3, n, rfl, rfl, rfl, h0, h1, h2, h3⟩ := Go.Joins.open_agg4 Tryd.underlying59 (by kernel_rfl) rdCells hv h
  obtain ⟨s, e0, x0, w0⟩ := DataW.trod_int Tryd.underlying3 h0
  obtain ⟨q, e1, x1, w1⟩ := DataW.trod_int Tryd.underlying56 h1
  obtain ⟨t, e2, x2, w2⟩ := DataW.trod_int Tryd.underlying56 h2
  obtain ⟨a0, cap, l, rfl, h4, h5, h6, h7⟩ := open_u64 h3 (fun n hn => hz n (by
    rw [DataW.weights, Tryd.underlying59]
    exact DataW.weights_mem_each (j := 3) rfl rfl n hn))
  simp at e0 e1 e2
  subst e0 e1 e2
  obtain ⟨q, rfl, hq⟩ := nat_of_u32 w1
  obtain ⟨t, rfl, ht⟩ := nat_of_u32 w2
  exact ⟨s, q, t, a0, cap, l, rfl, hq, ht, h4, h5, h6, h7, int_of_i64 w0⟩
theorem wt_of {ts : List TypeId} {ds : List (DataW H)} (h : (DataW.weightsEach Tryd.prog ts ds).all (· ≤ reachBytes) = true) {j : Nat} {t : TypeId} {d : DataW H} (ht : ts[j]? = some t) (hd : ds[j]? = some d) : ∀ n ∈ d.weights Tryd.prog t, n ≤ reachBytes :=
  fun n hn => of_decide_eq_true (List.all_eq_true.1 h n (DataW.weights_mem_each ht hd n hn))
end
end Go.Proofs.YtpmjlaiafgbjgaaDoor.Base
end

section
namespace Go.Proofs.YtpmjlaiafgbjgaaDoor
open Go.RowKit

theorem run_append_own_one {P : Program} (w : World) (base : Nat) (t ty e : TypeId) (i : TypeInfo) (z : Value) (size bytes : Nat) (ht : P.underlying t = some (.slice e)) (hi : P.info? e = some i) (hz : i.zero = some z)
    (hsize : i.size = size) (hby : i.bytes = bytes) (hzs : z.cells.size = size) (hsz : 0 < size) (v : Value) (n : Nat) (xs : List Value) (hown : w.ownsRow base e size v n xs)
    (a : Addr) (c : Nat) (news : List Value) (hl : news.length = 1 * size) (hnews : ∀ j u, news[j]? = some u → w.cell? (a.add j) = some u) (h1 : ∀ u ∈ news, u.oneCell' = true)
    (h63 : n + 1 ≤ maxLen) (hfit : (n + 1) * bytes ≤ 140737488355328 ∨ (0 < n ∧ Builtin.nextslicecap (n + 1) n * bytes ≤ 281474976710656)) (hbase : base ≤ w.heap.size) :
    ∃ v' w', (Builtin.append_ #[t, t] ty #[v, .slice (some a) 1 c]).run P w = .ok v' w' ∧ w'.ownsRow base e size v' (n + 1) (xs ++ news) ∧ w.grownBy w' v.ownBlock ∧ (v'.ownBlock = v.ownBlock ∨ v'.ownBlock = some w.heap.size) := by
  rcases hfit with hfit | ⟨hn, hfit⟩
  · obtain ⟨v', w', k1, k2, k3, _, k5⟩ := run_append_own_at (P := P) w base t ty e i z size bytes ht hi hz hsize hby hzs hsz v n xs hown a 1 c news hl hnews h1 h63 hfit hbase
    exact ⟨v', w', k1, k2, k3, k5⟩
  have hown' := hown
  rcases hown.2 with ⟨_, h0⟩ | ⟨g, cap, cur, rfl, hbg, hg, hnc, hcm, hcs, htake⟩
  · omega
  by_cases hroom : n + 1 ≤ cap
  · obtain ⟨w', k1, k2, k3⟩ := run_append_fits (P := P) w base t ty e i size ht hi hsize g n cap xs hown' a 1 c news hl hnews h1 hroom
    exact ⟨_, w', k1, k2, k3, .inl rfl⟩
  · obtain rfl : cap = n := by omega
    have holds : ∀ j u, xs[j]? = some u → w.cell? ((⟨g, 0, none⟩ : Addr).add j) = some u := hown'.cells (g := g) rfl
    have hr := run_append_grow (P := P) w t ty e i z ht hi hz ⟨g, 0, none⟩ cap cap xs (by rw [hsize]; exact hown.1) holds a 1 c news (by rw [hsize]; exact hl) hnews (by omega) (by unfold maxLen at h63; omega) (by rw [hby]; exact hfit)
    have hge := grownCap_ge w (cap + 1) cap e
    have hcm' := grownCap_le_maxLen w (cap + 1) cap e h63
    have hlen : (xs ++ news).length = (cap + 1) * size := by rw [List.length_append, hown.1, hl, Nat.add_mul]
    refine ⟨_, _, hr, ⟨hlen, .inr ⟨w.heap.size, _, _, rfl, hbase, heap_alloc_new w.drew _, hge, hcm', ?_, ?_⟩⟩, ⟨rfl, rfl, rfl, by simp, fun k hk _ => Below.heap_alloc w.drew _ _ hk⟩, .inr rfl⟩
    · simp only [Array.size_append, List.size_toArray, size_zeroCells, hzs, hown.1, hl, ← Nat.add_mul]
      congr 1
      omega
    · simp only [Array.toList_append, List.append_assoc]
      rw [← List.append_assoc, ← hlen]
      exact List.take_left
theorem next_fits {n : Nat} (h : 256 ≤ n) (h2 : n ≤ 4398046511104) : Builtin.nextslicecap (n + 1) n * 40 ≤ 281474976710656 := by
  unfold Builtin.nextslicecap
  rw [if_neg (by omega), if_neg (by omega), growBy_four]
  rw [if_neg (by omega), if_pos (by omega)]
  omega
/-- one reading more on a row of the call's own, for as many readings as there may be records -/
theorem run_app_rdb (w : World) (base : Nat) (v : Value) (rs : List Rd) (r : Rd) (u : Value) (hown : RdsO w base v rs) (hu : OwnF w base u r.vals) (hne : u.ownBlock = none ∨ u.ownBlock ≠ v.ownBlock) (hl : rs.length ≤ 4398046511104) (hbase : base ≤ w.heap.size) :
    ∃ v' w', (Builtin.append_ #[72, 72] 72 #[v, .slice (some ⟨w.heap.size, 0, none⟩) 1 1]).run Tryd.prog (w.alloc (.cells #[.int .i64 (r.sensor : Int), .int .u32 (r.seq : Int), .int .u32 (r.stamp : Int), u] 67)) = .ok v' w' ∧ RdsO w' base v' (rs ++ [r]) ∧ w.grownBy w' v.ownBlock ∧ (∀ j, v.ownBlock = some j → base ≤ j) := by
  by_cases hsm : (rs.length + 1) * 40 ≤ 140737488355328
  · exact run_app_rd w base v rs r u hown hu hne hsm hbase
  obtain ⟨ps, rfl, hrow, hps⟩ := hown
  rw [List.length_map] at hl hsm
  obtain ⟨i0, hi0, hz0, hz1, hz2⟩ := info_parts Tryd.infoRd
  have hin := (Within.refl w).alloc (.cells #[.int .i64 (r.sensor : Int), .int .u32 (r.seq : Int), .int .u32 (r.stamp : Int), u] 67)
  have hu1 : u.oneCell' = true := by obtain ⟨A, c, rfl, _⟩ := hu.form; rfl
  have hrow' := hrow.kept (within_grown hin) (by cases hv : v.ownBlock <;> simp)
  have hcell : ∀ (j : Nat) x, (rdC r u)[j]? = some x → (w.alloc (.cells #[.int .i64 (r.sensor : Int), .int .u32 (r.seq : Int), .int .u32 (r.stamp : Int), u] 67)).cell? ((⟨w.heap.size, 0, none⟩ : Addr).add j) = some x := fun j x hx => by
    rw [add_at, World.cell?_alloc_at _ _ _ _ rfl]
    unfold rdC at hx
    match j, hx with
    | 0, hx => exact hx
    | 1, hx => exact hx
    | 2, hx => exact hx
    | 3, hx => exact hx
    | j + 4, hx => simp at hx
  obtain ⟨v', w', h1, h2, h3, h5⟩ := run_append_own_one (P := Tryd.prog) (w := w.alloc (.cells #[.int .i64 (r.sensor : Int), .int .u32 (r.seq : Int), .int .u32 (r.stamp : Int), u] 67)) base 72 72 67 i0 (.agg #[.int .i64 0, .int .u32 0, .int .u32 0, .slice none 0 0]) 4 40 (by kernel_rfl) hi0 hz0 hz1 hz2 rfl (by decide) v ps.length (cellsR ps) hrow' ⟨w.heap.size, 0, none⟩ 1 (rdC r u) rfl hcell (rdC_one r hu1)
    (by unfold maxLen; omega) (.inr ⟨by omega, next_fits (by omega) hl⟩) (by simp; omega)
  have hlt := fun j hj => (hrow.lt j hj)
  refine ⟨v', w', h1, ⟨ps ++ [(r, u)], by rw [List.map_append]; rfl, ?_, ?_⟩, ?_, fun j hj => (hlt j hj).1⟩
  · have e : cellsR (ps ++ [(r, u)]) = cellsR ps ++ rdC r u := by unfold cellsR; rw [List.flatMap_append]; simp
    rw [List.length_append, e]; exact h2
  · have key : ∀ x xs, OwnF w base x xs → (x.ownBlock = none ∨ x.ownBlock ≠ v.ownBlock) → OwnF w' base x xs ∧ (x.ownBlock = none ∨ x.ownBlock ≠ v'.ownBlock) := fun x xs h hn => by
      refine ⟨(h.of hin).kept h3 hn, ?_⟩
      rcases hn with hn | hn
      · exact .inl hn
      · rcases h5 with h5 | h5
        · exact .inr (by rw [h5]; exact hn)
        · cases hx : x.ownBlock with
          | none => exact .inl rfl
          | some j =>
            refine .inr (fun e => ?_)
            rw [h5] at e
            have := (h.lt j hx).2
            have := Option.some.inj e
            simp at this
            omega
    intro p hp
    rcases List.mem_append.1 hp with h | h
    · exact key _ _ (hps p h).1 (hps p h).2
    · rw [List.mem_singleton] at h; rw [h]; exact key _ _ hu hne
  · exact ⟨h3.os, h3.tape, h3.output, Nat.le_trans (by simp) h3.size, fun k hk hn => (h3.block k (by simp; omega) hn).trans (Below.heap_alloc _ _ _ hk)⟩
end Go.Proofs.YtpmjlaiafgbjgaaDoor
end

section
namespace Go.Proofs.YtpmjlaiafgbjgaaDoor
open Go.RowKit

/-- what Reading tells -/
def ReadingP (s : Int) (q t : Nat) (l : List Nat) (w : World) (e : Ending) (w' : World) : Prop := ∃ (k : Int) (v : Value), e = .returned (.tuple #[.agg #[.int .i64 k, v], .int .i64 (checkV pf s l)]) ∧ k = (if checkV pf s l = 0 then 1 else 0) ∧ OwnB w' w.heap.size v (packL s q t l) ∧ Within w w'
theorem packL_no {s : Int} {q t : Nat} {l : List Nat} (h : checkV pf s l ≠ 0) : packL s q t l = [] := if_neg h
/-- the readings among records -/
def isRd (r : IRec) : Bool := decide (r.1 = 1 ∧ checkR pf r.1 r.2 = 0)
def readingsV (rs : List IRec) : List Rd := (rs.filter isRd).map fun r => rdOf r.2
theorem readingsV_len (rs : List IRec) : (readingsV rs).length ≤ rs.length := by unfold readingsV; rw [List.length_map]; exact List.length_filter_le _ _
theorem readingsV_snoc (rs : List IRec) (r : IRec) : readingsV (rs ++ [r]) = if isRd r = true then readingsV rs ++ [rdOf r.2] else readingsV rs := by
  unfold readingsV
  rw [List.filter_append, List.map_append]
  by_cases h : isRd r = true
  · rw [if_pos h, List.filter_cons_of_pos h]; rfl
  · rw [if_neg h, List.filter_cons_of_neg (by simpa using h)]; simp
theorem isRd_unpack {r : IRec} (h : isRd r = true) : unpackE pf r.2 = 0 := by
  unfold isRd at h
  obtain ⟨h1, h2⟩ := of_decide_eq_true h
  rw [h1] at h2
  by_cases hl : 1048576 < r.2.length
  · rw [checkR_long (by decide) hl] at h2; cases h2
  · rw [checkR_read hl] at h2
    by_cases h0 : unpackE pf r.2 = 0
    · exact h0
    · rw [if_neg h0] at h2; cases h2
/-- where a record of a list lies, in a walk's own words -/
theorem RecAt.cells {w : World} {D : Nat → Prop} {A : Option Addr} {ls : List IRec} (h : RecAt w D A ls) {i : Nat} {r : IRec} (hi : ls[i]? = some r) : ∃ ad Dv cv, A = some ad ∧ ad.block < w.heap.size ∧ w.cell? (ad.add (i * 2)) = some (.int .i64 r.1) ∧ w.cell? ⟨(ad.add (i * 2)).block, (ad.add (i * 2)).off + 1, none⟩ = some (.slice Dv r.2.length cv) ∧ r.2.length ≤ cv ∧ SlAt w Dv (u8v r.2) ∧ Bytes r.2 := by
  obtain ⟨ad, Dv, cv, h1, h2, _, h4, h5, h6, h7, _, h9⟩ := h i r hi
  refine ⟨ad, Dv, cv, h1, h2, h4, ?_, h6, h7, h9⟩
  rw [← add_add, add_plain' _ (by decide)] at h5
  exact h5
theorem rds_take {rs : List IRec} {i : Nat} {r : IRec} (h : rs[i]? = some r) : rs.take i ++ [r] = rs.take (i + 1) := by
  obtain ⟨hi, rfl⟩ := List.getElem?_eq_some_iff.1 h
  rw [List.take_add_one, List.getElem?_eq_getElem hi]; rfl

set_option maxRecDepth 100000 in
set_option maxHeartbeats 1000000 in
theorem Reading_any (s : Int) (q t : Nat) (A : Option Addr) (c : Nat) (l : List Nat) (hq : q < 4294967296) (ht : t < 4294967296) (hw : Words64 l) (hl : l.length ≤ 1152921504606846976) (w : World) (hT : FmS w) (hr : SlAt w A (f64v l)) : Calls Tryd.prog 29 #[.agg #[.int .i64 s, .int .u32 (q : Int), .int .u32 (t : Int), .slice A l.length c]] w (ReadingP s q t l w) := by
  obtain ⟨W0, hW0⟩ : ∃ W, W = (w.alloc (.cells #[.int .i64 s, .int .u32 (q : Int), .int .u32 (t : Int), .slice A l.length c] 67)).alloc (.cells #[.int .i64 0, .slice none 0 0] 50) := ⟨_, rfl⟩
  have hI : Within w W0 := by rw [hW0]; exact ((Within.refl w).alloc _).alloc _
  have hs0 : W0.heap.size = w.heap.size + 2 := by rw [hW0]; simp
  have k0 : W0.cell? ⟨w.heap.size + 1, 0, none⟩ = some (.int .i64 0) := by rw [hW0]; simp
  have k1 : W0.cell? ⟨w.heap.size + 1, 1, none⟩ = some (.slice none 0 0) := by rw [hW0]; simp
  have kf0 : W0.frozen? ⟨w.heap.size + 1, 0, none⟩ = false := by rw [hW0]; simp
  have kf1 : W0.frozen? ⟨w.heap.size + 1, 1, none⟩ = false := by rw [hW0]; simp
  have ks : w.heap.size + 1 < W0.heap.size := by omega
  have PA := Lib.hid (Pack_any s q t A c l hq ht hw hl W0 (hT.of hI) (hr.of hI))
  obtain ⟨ck, hck⟩ : ∃ x, checkV pf s l = x := ⟨_, rfl⟩
  rw [hck] at PA
  obtain ⟨pl, hpl⟩ : ∃ x, packL s q t l = x := ⟨_, rfl⟩
  rw [hpl] at PA
  obtain ⟨n, hn⟩ : ∃ n, l.length = n := ⟨_, rfl⟩
  rw [hn] at hW0 PA ⊢
  have HCK := Lib.hid hck; have HPL := Lib.hid hpl; have HI := Lib.hid hI; have HS0 := Lib.hid hs0; clear hck hpl hn hI hT hr hw hl
  go_enter Tryd.func29, Tryd.ntmps29
  go_wp2_with fail
  rw [← hW0]
  clear hW0
  refine PA.out.mono ?_; rintro e1 w1 ⟨v1, rfl, hO1, h1⟩
  clear PA
  have k0 := (h1.cells _ _ ks).trans k0
  have k1 := (h1.cells _ _ ks).trans k1
  have kf0 := (h1.frozens _ _ ks).trans kf0
  have kf1 := (h1.frozens _ _ ks).trans kf1
  have ks := Nat.lt_of_lt_of_le ks h1.size
  obtain ⟨A1, c1, rfl, _, _, _⟩ := hO1.form
  obtain ⟨m, hm⟩ : ∃ m, pl.length = m := ⟨_, rfl⟩
  rw [hm] at hO1 ⊢
  clear hm
  have hin := HI.out.trans h1
  have HO1 := Lib.hid hO1; have HIN := Lib.hid hin; clear h1 hO1 hin
  by_cases h0 : ck = 0
  · subst h0
    go_wp2
    have hK : But (w.heap.size + 1) w1 ((w1.setCell ⟨w.heap.size + 1, 0, none⟩ (.int .i64 1)).setCell ⟨w.heap.size + 1, 1, none⟩ (.slice A1 m c1)) := ((But.refl (w.heap.size + 1) w1).set (p := ⟨w.heap.size + 1, 0, none⟩) (.inl rfl) _).set (p := ⟨w.heap.size + 1, 1, none⟩) (.inl rfl) _
    have hI9 : Within w ((w1.setCell ⟨w.heap.size + 1, 0, none⟩ (.int .i64 1)).setCell ⟨w.heap.size + 1, 1, none⟩ (.slice A1 m c1)) := (HIN.out.setCell (Nat.le_succ _) _).setCell (Nat.le_succ _) _
    have hO9 := HO1.out.but hK (by have := HS0.out; omega)
    refine bodyPost_ret (v := .tuple #[.agg #[.int .i64 1, .slice A1 m c1], .int .i64 0]) (by simp [results, Tryd.results29, go_sem, k0, k1, kf0, kf1, ks]) rfl ⟨1, _, by rw [HCK.out], by rw [HCK.out, if_pos rfl], by rw [HPL.out]; exact hO9.less (by have := HS0.out; omega), hI9⟩
  · have v1 : (ck != 0) = true := bne_iff_ne.2 h0
    go_wp2
    have hI9 : Within w ((w1.setCell ⟨w.heap.size + 1, 0, none⟩ (.int .i64 0)).setCell ⟨w.heap.size + 1, 1, none⟩ (.slice none 0 0)) := (HIN.out.setCell (Nat.le_succ _) _).setCell (Nat.le_succ _) _
    refine bodyPost_ret (v := .tuple #[.agg #[.int .i64 0, .slice none 0 0], .int .i64 ck]) (by simp [results, Tryd.results29, go_sem, k0, k1, kf0, kf1, ks]) rfl ⟨0, _, by rw [HCK.out], by rw [HCK.out, if_neg h0], by rw [packL_no (by rw [HCK.out]; exact h0)]; exact OwnB.nil_ _ _, hI9⟩

theorem rds_lt {w : World} {base : Nat} {v : Value} {rs : List Rd} (h : RdsO w base v rs) : ∀ j, v.ownBlock = some j → j < w.heap.size := by
  obtain ⟨ps, _, h2, _⟩ := h
  exact fun j hj => (h2.lt j hj).2

set_option maxRecDepth 100000 in
set_option maxHeartbeats 1000000 in
theorem Readings_any (D : Nat → Prop) (A : Option Addr) (c : Nat) (rs : List IRec) (hle : rs.length ≤ 4398046511104) (hsz : ∀ r ∈ rs, r.2.length ≤ 1152921504606846976) (w : World) (hT : FmS w) (hr : RecAt w D A rs) : Calls Tryd.prog 33 #[.slice A rs.length c] w fun e w' => ∃ v, e = .returned v ∧ RdsO w' w.heap.size v (readingsV rs) ∧ Within w w' := by
  obtain ⟨n, hn⟩ : ∃ n, rs.length = n := ⟨_, rfl⟩
  have HN := Lib.hid hn
  rw [hn] at hle ⊢
  clear hn
  have HT := Lib.hid hT
  have HR := Lib.hid hr; clear hr hT
  go_enter Tryd.func33, Tryd.ntmps33
  go_wp2
  go_loopw [3, 10] (fun ov iv wr => ∃ i : Nat, i ≤ n ∧ iv = .int .i64 (i : Int) ∧ RdsO wr w.heap.size ov (readingsV (rs.take i)) ∧ Within w wr) (fun _ iv _ => n - (intOf iv).toNat)
  case atStart => exact ⟨0, by omega, rfl, RdsO.nil_ _ _, Within.refl _⟩
  case round =>
    obtain ⟨i, hi, rfl, hO, hin⟩ := hrel
    by_cases hlt : i < n
    · have hlt' : i < rs.length := by rw [HN.out]; exact hlt
      obtain ⟨r, hr⟩ : ∃ r, rs[i]? = some r := ⟨_, List.getElem?_eq_getElem hlt'⟩
      obtain ⟨ad, Dv, cv, rfl, hb, c0, c1, hcv, hs1, hby⟩ := (HR.out.of hin).cells hr
      have b1 : (i : Int) < (n : Int) := by omega
      have hsn := readingsV_snoc (rs.take i) r
      rw [rds_take hr] at hsn
      have hrl := readingsV_len (rs.take i)
      have hrl2 : (rs.take i).length ≤ i := by rw [List.length_take]; omega
      have hun : isRd r = true → unpackE pf r.2 = 0 := isRd_unpack
      have hid : isRd r = decide (r.1 = 1 ∧ checkR pf r.1 r.2 = 0) := rfl
      obtain ⟨k, d⟩ := r
      simp only at c0 c1 hcv hs1 hby hsn hun hid
      obtain ⟨nd, hnd⟩ : ∃ n, d.length = n := ⟨_, rfl⟩
      have hdl : nd ≤ 1152921504606846976 := by rw [← hnd]; exact hsz _ (List.mem_of_getElem? hr)
      have JC := Lib.hid (fun W (h : Within wr W) => jcheck_any k Dv cv d hby hcv (by rw [hnd]; exact hdl) W (HT.out.of (hin.trans h)) (hs1.of h))
      have UN := Lib.hid (fun W (h : Within wr W) => Unpack_any Dv cv d hby (by rw [hnd]; exact hdl) hcv W (HT.out.of (hin.trans h)) (hs1.of h))
      rw [hnd] at c1 hcv JC UN
      obtain ⟨ck, hck⟩ : ∃ x, checkR pf k d = x := ⟨_, rfl⟩
      rw [hck] at JC hid
      obtain ⟨er, her⟩ : ∃ x, unpackE pf d = x := ⟨_, rfl⟩
      rw [her] at UN hun
      obtain ⟨rd, hrd⟩ : ∃ x, rdOf d = x := ⟨_, rfl⟩
      rw [hrd] at UN hsn
      have HSN := Lib.hid hsn; have HIN := Lib.hid hin; have HO := Lib.hid hO; have HUN := Lib.hid hun; have HID := Lib.hid hid; have HRL := Lib.hid (Nat.le_trans hrl hrl2); have HB := Lib.hid hb; clear hsn hin hO hr hby hs1 hck her hrd hun hid hrl hrl2 hnd hlt' hdl hcv
      obtain ⟨Ao, co, rfl, _, _⟩ := HO.out.form
      by_cases hk : k = 1
      · subst hk
        have e1 : ((1 : Int) != 1) = false := by decide
        obtain ⟨W2, hW2⟩ : ∃ W, W = wr.alloc (.cells #[.int .i64 1, .slice Dv nd cv] 50) := ⟨_, rfl⟩
        have i2 : Within wr W2 := by rw [hW2]; exact (Within.refl wr).alloc _
        have z0 : W2.cell? ⟨wr.heap.size, 0, none⟩ = some (.int .i64 1) := by rw [hW2]; simp
        have z1 : W2.cell? ⟨wr.heap.size, 1, none⟩ = some (.slice Dv nd cv) := by rw [hW2]; simp
        have zs : wr.heap.size < W2.heap.size := by rw [hW2]; simp
        have E2 := Lib.hid hW2; have I2 := Lib.hid i2; clear hW2 i2
        go_wp2_with fail
        rw [← E2.out]
        refine (JC.out W2 I2.out).mono ?_; rintro e3 w3 ⟨rfl, h3⟩
        have z0 := (h3.cells _ _ zs).trans z0
        have z1 := (h3.cells _ _ zs).trans z1
        have zs := Nat.lt_of_lt_of_le zs h3.size
        have I3 := Lib.hid (I2.out.trans h3)
        clear h3
        by_cases h0 : ck = 0
        · subst h0
          obtain rfl : er = 0 := HUN.out (by rw [HID.out]; simp)
          go_wp2_with fail
          refine (UN.out w3 I3.out).mono ?_; rintro e4 w4 ⟨v4, rfl, hO4, h4⟩
          obtain ⟨A4, c4, rfl, _, _, _⟩ := hO4.form
          obtain ⟨m4, hm4⟩ : ∃ m, rd.vals.length = m := ⟨_, rfl⟩
          rw [hm4] at hO4 ⊢
          clear hm4
          obtain ⟨W5, hW5⟩ : ∃ W, W = w4.alloc (.cells #[.int .i64 (rd.sensor : Int), .int .u32 (rd.seq : Int), .int .u32 (rd.stamp : Int), .slice A4 m4 c4] 67) := ⟨_, rfl⟩
          have i5 : Within w4 W5 := by rw [hW5]; exact (Within.refl w4).alloc _
          have hX5 : Within wr W5 := I3.out.trans (h4.trans i5)
          have hne : (Value.slice A4 m4 c4).ownBlock = none ∨ (Value.slice A4 m4 c4).ownBlock ≠ (Value.slice Ao (readingsV (rs.take i)).length co).ownBlock := by
            cases ho : (Value.slice A4 m4 c4).ownBlock with
            | none => exact .inl rfl
            | some j => exact .inr (fun e => by have h1 := (hO4.lt j ho).1; have h2 := (rds_lt HO.out j e.symm); have := I3.out.size; omega)
          obtain ⟨v6, w6, hrun6, hO6, hg6, hb6⟩ := run_app_rdb W5 w.heap.size (.slice Ao (readingsV (rs.take i)).length co) (readingsV (rs.take i)) rd (.slice A4 m4 c4) (HO.out.of hX5) ((hO4.less (Nat.le_trans HIN.out.size I3.out.size)).of i5) hne (by have := HRL.out; omega) (HIN.out.trans hX5).size
          have hX6 : Within w w6 := Below.grown (HIN.out.trans hX5) hg6 (HIN.out.trans hX5).size hb6
          rw [show readingsV (rs.take i) ++ [rd] = readingsV (rs.take (i + 1)) by rw [HSN.out, if_pos (by rw [HID.out]; simp)]] at hO6
          obtain ⟨A6, c6, rfl, _, _⟩ := hO6.form
          have x0 : W5.cell? ⟨w4.heap.size, 0, none⟩ = some (.int .i64 (rd.sensor : Int)) := by rw [hW5]; simp
          have x1 : W5.cell? ⟨w4.heap.size, 1, none⟩ = some (.int .u32 (rd.seq : Int)) := by rw [hW5]; simp
          have x2 : W5.cell? ⟨w4.heap.size, 2, none⟩ = some (.int .u32 (rd.stamp : Int)) := by rw [hW5]; simp
          have x3 : W5.cell? ⟨w4.heap.size, 3, none⟩ = some (.slice A4 m4 c4) := by rw [hW5]; simp
          have xs : w4.heap.size < W5.heap.size := by rw [hW5]; simp
          obtain ⟨mo, hmo⟩ : ∃ m, (readingsV (rs.take i)).length = m := ⟨_, rfl⟩
          rw [hmo] at hrun6 ⊢
          clear hmo hne
          rw [hW5] at hrun6
          simp only [World.size_alloc] at hrun6
          have RUN6 := Lib.hid hrun6; have HO6 := Lib.hid hO6; have HX6 := Lib.hid hX6; have E5 := Lib.hid hW5; clear hrun6 hO6 hX6 hg6 hb6 hW5 h4 i5 hX5 hO4
          go_wp2_with (at_builtin; refine wpList_append_run rfl (.tmp 30) (.tmp 32) 72 rfl _ _ rfl rfl RUN6.out ?_)
          go_roundw
          case rel => exact ⟨i + 1, hlt, by go_num, HO6.out, HX6.out⟩
          case measure => simp [intOf]; omega
        · have v1 : (ck != 0) = true := bne_iff_ne.2 h0
          have hno : ¬ decide ((1 : Int) = 1 ∧ ck = 0) = true := fun h => h0 (of_decide_eq_true h).2
          have HNO := Lib.hid hno; clear hno
          go_wp2
          go_roundw
          case rel => exact ⟨i + 1, hlt, by go_num, by rw [HSN.out, if_neg (by rw [HID.out]; exact HNO.out)]; exact HO.out.of I3.out, HIN.out.trans I3.out⟩
          case measure => simp [intOf]; omega
      · have e1 : (k != 1) = true := bne_iff_ne.2 hk
        have hno : ¬ decide (k = 1 ∧ ck = 0) = true := fun h => hk (of_decide_eq_true h).1
        have HNO := Lib.hid hno; clear hno hk
        go_wp2
        go_roundw
        case rel => exact ⟨i + 1, hlt, by go_num, by rw [HSN.out, if_neg (by rw [HID.out]; exact HNO.out)]; exact HO.out.of ((Within.refl wr).alloc _), HIN.out.alloc _⟩
        case measure => simp [intOf]; omega
    · obtain rfl : i = n := by omega
      rw [← HN.out, List.take_length] at hO
      obtain ⟨Ao, co, rfl, _, _⟩ := hO.form
      have HO := Lib.hid hO; have HIN := Lib.hid hin; clear hO hin
      go_wp2
      go_ret
      exact ⟨_, rfl, HO.out, HIN.out⟩

set_option maxRecDepth 100000 in
set_option maxHeartbeats 1000000 in
theorem Rreadings_any (D : Nat → Prop) (A : Option Addr) (c : Nat) (rs : List IRec) (hle : rs.length ≤ 4398046511104) (hsz : ∀ r ∈ rs, r.2.length ≤ 1152921504606846976) (w : World) (hr : RecAt w D A rs) : Calls Tryd.prog 34 #[.slice A rs.length c] w fun e w' => ∃ v, e = .returned v ∧ RdsO w' w.heap.size v (readingsV rs) ∧ Within w w' := by
  obtain ⟨n, hn⟩ : ∃ n, rs.length = n := ⟨_, rfl⟩
  have HN := Lib.hid hn
  rw [hn] at hle ⊢
  clear hn
  have HR := Lib.hid hr; clear hr
  go_enter Tryd.func34, Tryd.ntmps34
  go_wp2
  go_loopw [3, 4] (fun ov iv wr => ∃ i : Nat, i ≤ n ∧ iv = .int .i64 (i : Int) ∧ RdsO wr w.heap.size ov (readingsV (rs.take i)) ∧ Within w wr) (fun _ iv _ => n - (intOf iv).toNat)
  case atStart => exact ⟨0, by omega, rfl, RdsO.nil_ _ _, Within.refl _⟩
  case round =>
    obtain ⟨i, hi, rfl, hO, hin⟩ := hrel
    by_cases hlt : i < n
    · have hlt' : i < rs.length := by rw [HN.out]; exact hlt
      obtain ⟨r, hr⟩ : ∃ r, rs[i]? = some r := ⟨_, List.getElem?_eq_getElem hlt'⟩
      obtain ⟨ad, Dv, cv, rfl, hb, c0, c1, hcv, hs1, hby⟩ := (HR.out.of hin).cells hr
      have b1 : (i : Int) < (n : Int) := by omega
      have hsn := readingsV_snoc (rs.take i) r
      rw [rds_take hr] at hsn
      have hrl := readingsV_len (rs.take i)
      have hrl2 : (rs.take i).length ≤ i := by rw [List.length_take]; omega
      have hun : isRd r = true → unpackE pf r.2 = 0 := isRd_unpack
      have hid : isRd r = decide (r.1 = 1 ∧ checkR pf r.1 r.2 = 0) := rfl
      obtain ⟨k, d⟩ := r
      simp only at c0 c1 hcv hs1 hby hsn hun hid
      obtain ⟨nd, hnd⟩ : ∃ n, d.length = n := ⟨_, rfl⟩
      have hdl : nd ≤ 1152921504606846976 := by rw [← hnd]; exact hsz _ (List.mem_of_getElem? hr)
      have JC := Lib.hid (fun W (h : Within wr W) => Rjcheck_any k Dv cv d hby hcv (by rw [hnd]; exact hdl) W (hs1.of h))
      have UN := Lib.hid (fun W (h : Within wr W) => Runpack_any Dv cv d hby (by rw [hnd]; exact hdl) hcv W (hs1.of h))
      rw [hnd] at c1 hcv JC UN
      obtain ⟨ck, hck⟩ : ∃ x, checkR pf k d = x := ⟨_, rfl⟩
      rw [hck] at JC hid
      obtain ⟨er, her⟩ : ∃ x, unpackE pf d = x := ⟨_, rfl⟩
      rw [her] at UN hun
      obtain ⟨rd, hrd⟩ : ∃ x, rdOf d = x := ⟨_, rfl⟩
      rw [hrd] at UN hsn
      have HSN := Lib.hid hsn; have HIN := Lib.hid hin; have HO := Lib.hid hO; have HUN := Lib.hid hun; have HID := Lib.hid hid; have HRL := Lib.hid (Nat.le_trans hrl hrl2); have HB := Lib.hid hb; clear hsn hin hO hr hby hs1 hck her hrd hun hid hrl hrl2 hnd hlt' hdl hcv
      obtain ⟨Ao, co, rfl, _, _⟩ := HO.out.form
      by_cases hk : k = 1
      · subst hk
        have I0 := HB.out
        go_wp2_with fail
        refine (JC.out wr (Within.refl wr)).mono ?_; rintro e3 w3 ⟨rfl, h3⟩
        have c0 := (h3.cell (p := ad.add (i * 2)) (by rw [add_block]; exact I0)).trans c0
        have c1 := (h3.cell (p := ⟨(ad.add (i * 2)).block, (ad.add (i * 2)).off + 1, none⟩) (by rw [add_block]; exact I0)).trans c1
        have hb3 : ad.block < w3.heap.size := Nat.lt_of_lt_of_le I0 h3.size
        have I3 := Lib.hid h3
        clear h3
        by_cases h0 : ck = 0
        · subst h0
          obtain rfl : er = 0 := HUN.out (by rw [HID.out]; simp)
          go_wp2_with fail
          refine (UN.out w3 I3.out).mono ?_; rintro e4 w4 ⟨v4, rfl, hO4, h4⟩
          obtain ⟨A4, c4, rfl, _, _, _⟩ := hO4.form
          obtain ⟨m4, hm4⟩ : ∃ m, rd.vals.length = m := ⟨_, rfl⟩
          rw [hm4] at hO4 ⊢
          clear hm4
          obtain ⟨W5, hW5⟩ : ∃ W, W = w4.alloc (.cells #[.int .i64 (rd.sensor : Int), .int .u32 (rd.seq : Int), .int .u32 (rd.stamp : Int), .slice A4 m4 c4] 67) := ⟨_, rfl⟩
          have i5 : Within w4 W5 := by rw [hW5]; exact (Within.refl w4).alloc _
          have hX5 : Within wr W5 := I3.out.trans (h4.trans i5)
          have hne : (Value.slice A4 m4 c4).ownBlock = none ∨ (Value.slice A4 m4 c4).ownBlock ≠ (Value.slice Ao (readingsV (rs.take i)).length co).ownBlock := by
            cases ho : (Value.slice A4 m4 c4).ownBlock with
            | none => exact .inl rfl
            | some j => exact .inr (fun e => by have h1 := (hO4.lt j ho).1; have h2 := (rds_lt HO.out j e.symm); have := I3.out.size; omega)
          obtain ⟨v6, w6, hrun6, hO6, hg6, hb6⟩ := run_app_rdb W5 w.heap.size (.slice Ao (readingsV (rs.take i)).length co) (readingsV (rs.take i)) rd (.slice A4 m4 c4) (HO.out.of hX5) ((hO4.less (Nat.le_trans HIN.out.size I3.out.size)).of i5) hne (by have := HRL.out; omega) (HIN.out.trans hX5).size
          have hX6 : Within w w6 := Below.grown (HIN.out.trans hX5) hg6 (HIN.out.trans hX5).size hb6
          rw [show readingsV (rs.take i) ++ [rd] = readingsV (rs.take (i + 1)) by rw [HSN.out, if_pos (by rw [HID.out]; simp)]] at hO6
          obtain ⟨A6, c6, rfl, _, _⟩ := hO6.form
          have x0 : W5.cell? ⟨w4.heap.size, 0, none⟩ = some (.int .i64 (rd.sensor : Int)) := by rw [hW5]; simp
          have x1 : W5.cell? ⟨w4.heap.size, 1, none⟩ = some (.int .u32 (rd.seq : Int)) := by rw [hW5]; simp
          have x2 : W5.cell? ⟨w4.heap.size, 2, none⟩ = some (.int .u32 (rd.stamp : Int)) := by rw [hW5]; simp
          have x3 : W5.cell? ⟨w4.heap.size, 3, none⟩ = some (.slice A4 m4 c4) := by rw [hW5]; simp
          have xs : w4.heap.size < W5.heap.size := by rw [hW5]; simp
          obtain ⟨mo, hmo⟩ : ∃ m, (readingsV (rs.take i)).length = m := ⟨_, rfl⟩
          rw [hmo] at hrun6 ⊢
          clear hmo hne
          rw [hW5] at hrun6
          simp only [World.size_alloc] at hrun6
          have RUN6 := Lib.hid hrun6; have HO6 := Lib.hid hO6; have HX6 := Lib.hid hX6; have E5 := Lib.hid hW5; clear hrun6 hO6 hX6 hg6 hb6 hW5 h4 i5 hX5 hO4
          go_wp2_with (at_builtin; refine wpList_append_run rfl (.tmp 36) (.tmp 38) 72 rfl _ _ rfl rfl RUN6.out ?_)
          go_roundw
          case rel => exact ⟨i + 1, hlt, by go_num, HO6.out, HX6.out⟩
          case measure => simp [intOf]; omega
        · have v1 : (ck == 0) = false := beq_eq_false_iff_ne.2 h0
          have hno : ¬ decide ((1 : Int) = 1 ∧ ck = 0) = true := fun h => h0 (of_decide_eq_true h).2
          have HNO := Lib.hid hno; clear hno
          go_wp2
          go_roundw
          case rel => exact ⟨i + 1, hlt, by go_num, by rw [HSN.out, if_neg (by rw [HID.out]; exact HNO.out)]; exact HO.out.of I3.out, HIN.out.trans I3.out⟩
          case measure => simp [intOf]; omega
      · have e1 : (k == 1) = false := beq_eq_false_iff_ne.2 hk
        have hno : ¬ decide (k = 1 ∧ ck = 0) = true := fun h => hk (of_decide_eq_true h).1
        have HNO := Lib.hid hno; clear hno hk
        go_wp2
        go_roundw
        case rel => exact ⟨i + 1, hlt, by go_num, by rw [HSN.out, if_neg (by rw [HID.out]; exact HNO.out)]; exact HO.out.of (Within.refl wr), HIN.out.trans (Within.refl wr)⟩
        case measure => simp [intOf]; omega
    · obtain rfl : i = n := by omega
      rw [← HN.out, List.take_length] at hO
      obtain ⟨Ao, co, rfl, _, _⟩ := hO.form
      have HO := Lib.hid hO; have HIN := Lib.hid hin; clear hO hin
      go_wp2
      go_ret
      exact ⟨_, rfl, HO.out, HIN.out⟩

end Go.Proofs.YtpmjlaiafgbjgaaDoor
end

section
namespace Go.Proofs.YtpmjlaiafgbjgaaDoor.Base
open Go.ChangeShapes Go.WideShapes Go.ChangeAt Go.RowKit

section
variable {H : Type} {enc : TypeId × Value → H} {W : World}
theorem weightsAll_mem {P : Program} {e : TypeId} {d : DataW H} : ∀ {l : List (DataW H)}, d ∈ l → ∀ n ∈ d.weights P e, n ∈ DataW.weightsAll P e l
  | [], h, _, _ => by cases h
  | x :: r, h, n, hn => by
    rw [DataW.weightsAll, List.mem_append]
    rcases List.mem_cons.1 h with rfl | h
    · exact .inl hn
    · exact .inr (weightsAll_mem h n hn)
theorem chosen {α : Type} [Inhabited α] {m : Nat} {p : Nat → α → Prop} (h : ∀ i, i < m → ∃ v, p i v) : ∃ V : Nat → α, ∀ i, i < m → p i (V i) := by
  classical
  refine ⟨fun i => if hi : i < m then (h i hi).choose else default, fun i hi => ?_⟩
  simp only [dif_pos hi]
  exact (h i hi).choose_spec
set_option maxRecDepth 100000 in
theorem recCells : Tryd.prog.cellsOf 50 = 2 := by kernel_rfl
set_option maxRecDepth 100000 in
theorem recBytes : Tryd.prog.bytesOf 50 = 32 := by kernel_rfl
set_option maxRecDepth 100000 in
/-- a text -/
theorem open_text {r : Reach} {b0 : Nat} {v : Value} {d : DataW H} {p : List MemPlace} (hv : Value.okWide Tryd.prog W r b0 9 v) (h : DataW.Trod enc Tryd.prog W 0 (fun _ => true) true 9 v d p) (hz : ∀ n ∈ d.weights Tryd.prog 9, n ≤ reachBytes) : ∃ s : ByteArray, v = .string s ∧ s.size ≤ 140737488355328 := by
  obtain ⟨fuel, hf⟩ := h
  obtain ⟨s, hs, hx, _⟩ := DataW.trod_string Tryd.underlying9 hf
  obtain ⟨s', rfl⟩ := okWide_string Tryd.underlying9 hv
  obtain rfl : s' = s := by simpa [Value.cells] using hs
  refine ⟨s', rfl, ?_⟩
  have hd := congrArg Prod.fst hx
  simp only at hd
  subst hd
  have := hz s'.size (by rw [DataW.weights]; exact List.mem_singleton.2 (by rw [Array.length_toList]; rfl))
  have e : reachBytes = 140737488351232 := rfl
  omega
set_option maxRecDepth 100000 in
/-- a record -/
theorem open_rec {r : Reach} {b0 : Nat} {v : Value} {d : DataW H} {p : List MemPlace} (hv : Value.okWide Tryd.prog W r b0 50 v) (h : DataW.Trod enc Tryd.prog W 0 (fun _ => true) true 50 v d p)
    (hz : ∀ n ∈ d.weights Tryd.prog 50, n ≤ reachBytes) :
    ∃ (k : Int) (a0 : Option Addr) (cap : Nat) (l : List Nat), v = .agg #[.int .i64 k, .slice a0 l.length cap] ∧ l.length ≤ cap ∧ l.length ≤ 140737488355328 ∧ Bytes l ∧ SlAt W a0 (u8v l) := by
  obtain ⟨v0, v1, y0, y1, n, rfl, rfl, rfl, h0, h1⟩ := Go.Joins.open_agg2 Tryd.underlying50 (by kernel_rfl) recCells hv h
  obtain ⟨s, e0, x0, w0⟩ := DataW.trod_int Tryd.underlying3 h0
  obtain ⟨a0, cap, l, rfl, h4, h5, h6, h7⟩ := open_u8 h1 (fun n hn => hz n (by
    rw [DataW.weights, Tryd.underlying50]
    exact DataW.weights_mem_each (j := 1) rfl rfl n hn))
  simp at e0
  subst e0
  exact ⟨s, a0, cap, l, rfl, h4, h5, h6, h7⟩
theorem cells2 {w : World} {base : Nat} {a : Addr} {cs : List Value} (h : w.cells? base a 2 = some cs) : ∃ c0 c1, cs = [c0, c1] ∧ w.cell? (a.add 0) = some c0 ∧ w.cell? (a.add 1) = some c1 := by
  obtain ⟨_, hl, hc⟩ := World.cells?_some h
  match cs, hl with
  | [c0, c1], _ => exact ⟨c0, c1, rfl, by simpa using hc 0 (by omega), by simpa using hc 1 (by omega)⟩
theorem open_list2 {P : Program} {w : World} {base : Nat} {spare : Nat → Bool} {held : Bool} {t : TypeId} {f0 f1 : Field} {fuel : Nat} {c0 c1 : Value} {x : DataW H × List MemPlace} (hs : P.underlying t = some (.struct #[f0, f1])) (hone : Go.Deep.oneCellFields P #[f0, f1] = true)
    (h : DataW.trod enc P w base spare held fuel t [c0, c1] = some x) :
    ∃ (y0 y1 : DataW H × List MemPlace) (n : Nat), x = (.agg [y0.1, y1.1], y0.2 ++ y1.2) ∧ DataW.trod enc P w base spare held n f0.type [c0] = some y0 ∧ DataW.trod enc P w base spare held n f1.type [c1] = some y1 := by
  obtain ⟨y0, y1, n, hx, _, h0, h1⟩ := trod_struct2 hs h
  obtain ⟨o0, k0⟩ := Go.Deep.hone_of hone 0 f0 rfl
  obtain ⟨o1, k1⟩ := Go.Deep.hone_of hone 1 f1 rfl
  exact ⟨y0, y1, n, hx, by simpa [o0, k0] using h0, by simpa [o1, k1] using h1⟩
set_option maxRecDepth 100000 in
/-- records side by side -/
theorem open_recs {r : Reach} {b0 : Nat} {v : Value} {d : DataW H} {p : List MemPlace} (hv : Value.okWide Tryd.prog W r b0 31 v) (h : DataW.Trod enc Tryd.prog W 0 (fun _ => true) true 31 v d p) (hz : ∀ n ∈ d.weights Tryd.prog 31, n ≤ reachBytes) :
    ∃ (a0 : Option Addr) (cap : Nat) (ls : List IRec), v = .slice a0 ls.length cap ∧ ls.length ≤ cap ∧ ls.length * 32 ≤ 140737488355328 ∧ (∀ r ∈ ls, r.2.length ≤ 140737488355328) ∧ RecAt W (fun _ => True) a0 ls := by
  obtain ⟨a, len, cap, rfl⟩ := okWide_slice Tryd.underlying31 hv
  obtain ⟨fuel, hf⟩ := h
  rcases Go.Deep.open_slice Tryd.underlying31 (by simpa [Value.cells] using hf) with ⟨hcs, hx⟩ | ⟨ad, ln, cp, m, n, D, Pl, hcs, _, hl, _, hm, hx, hcell⟩
  · simp at hcs
    obtain ⟨rfl, rfl, rfl⟩ := hcs
    exact ⟨none, 0, [], rfl, Nat.le_refl _, Nat.zero_le _, (fun r hr => by cases hr), RecAt.nil⟩
  · simp at hcs
    obtain ⟨rfl, rfl, rfl⟩ := hcs
    simp only [if_true] at hm
    have hm' := hm.symm
    subst hm'
    have hd := congrArg Prod.fst hx
    simp only at hd
    subst hd
    rw [recCells] at hcell
    have hw : ∀ i, i < len → ∀ k ∈ (D i).weights Tryd.prog 50, k ≤ reachBytes := fun i hi k hk => by
      refine hz k ?_
      rw [DataW.weights, Tryd.underlying31]
      refine List.mem_cons.2 (.inr (List.mem_append.2 (.inl ?_)))
      exact weightsAll_mem (List.mem_map.2 ⟨i, List.mem_range.2 hi, rfl⟩) k hk
    have hlen : len * 32 ≤ 140737488355328 := by
      have := hz (len * 32 + (cap - len) * 32) (by
        rw [DataW.weights, Tryd.underlying31]
        refine List.mem_cons.2 (.inl ?_)
        rw [recBytes, List.length_map, List.length_map, List.length_range, List.length_range, Nat.add_mul])
      have e : reachBytes = 140737488351232 := rfl
      omega
    obtain ⟨Ls, hL⟩ := chosen (α := IRec) (m := len) (p := fun i r => ∃ (Av : Option Addr) (cv : Nat), W.cell? ((ad.add (i * 2)).add 0) = some (.int .i64 r.1) ∧ W.cell? ((ad.add (i * 2)).add 1) = some (.slice Av r.2.length cv) ∧ r.2.length ≤ cv ∧ SlAt W Av (u8v r.2) ∧ Bytes r.2 ∧ r.2.length ≤ 140737488355328) (fun i hi => by
      obtain ⟨cs, hcs, ht⟩ := hcell i (by omega)
      obtain ⟨c0, c1, rfl, k0, k1⟩ := cells2 hcs
      obtain ⟨y0, y1, m, hy, h0, h1⟩ := open_list2 Tryd.underlying50 (by kernel_rfl) ht
      obtain ⟨s, e0, _, w0⟩ := DataW.trod_int Tryd.underlying3 h0
      have hD : D i = .agg [y0.1, y1.1] := congrArg Prod.fst hy
      obtain ⟨a0, c, l, rfl, h4, h5, h6, h7⟩ := open_u8 h1 (fun n hn => hw i hi n (by
        rw [hD, DataW.weights, Tryd.underlying50]
        exact DataW.weights_mem_each (j := 1) rfl rfl n hn))
      simp at e0
      subst e0
      exact ⟨(s, l), a0, c, k0, k1, h4, h7, h6, h5⟩)
    refine ⟨some ad, cap, (List.range len).map Ls, by rw [List.length_map, List.length_range], by rw [List.length_map, List.length_range]; exact hl, by rw [List.length_map, List.length_range]; exact hlen, fun r hr => ?_, fun i l hi => ?_⟩
    · obtain ⟨j, hj, rfl⟩ := List.mem_map.1 hr
      obtain ⟨_, _, _, _, _, _, _, h8⟩ := hL j (List.mem_range.1 hj)
      exact h8
    · rw [List.getElem?_map, Option.map_eq_some_iff] at hi
      obtain ⟨j, hj, rfl⟩ := hi
      obtain ⟨hj1, hj2⟩ := List.getElem?_eq_some_iff.1 hj
      rw [List.length_range] at hj1
      rw [List.getElem_range] at hj2
      subst hj2
      obtain ⟨Av, cv, k0, k1, h4, h5, h6, _⟩ := hL i hj1
      rw [add_add] at k0 k1
      exact ⟨ad, Av, cv, rfl, by have := World.block_lt_of_cell? _ _ k0; rwa [add_block] at this, trivial, k0, k1, h4, h5, fun _ _ => trivial, h6⟩
end
end Go.Proofs.YtpmjlaiafgbjgaaDoor.Base
end

section
namespace Go.Proofs.YtpmjlaiafgbjgaaDoor.journalNil
open Go.ChangeShapes Go.WideShapes Go.ChangeAt Go.RowKit

set_option maxRecDepth 100000 in
theorem contract (H : Type) (enc : TypeId × Value → H) (W : World) (base : Nat) (args : Array Value) (ds gs : List (DataW H)) (before : List MemPlace)
    (hval : ∀ (j : Nat) t v, Tryd.f10.params[j]? = some t → args[j]? = some v → Value.okWide Tryd.prog W .any base t v)
    (hW : DataW.Whole enc Tryd.prog Tryd.f10.params.toList Rows.journalNilSpec.vars false W args.toList ds gs before)
    (hsz : (DataW.weightsEach Tryd.prog (Tryd.f10.params.toList ++ (OpenSpec.ofChange Rows.journalNilSpec).bare.plain.varTypes Tryd.prog) (ds ++ gs)).all (· ≤ reachBytes) = true) (hL : laidMetH Tryd.prog Rows.journalNilRow.laid W) :
    Calls Tryd.prog 10 args W fun e W' => ∃ v, e = .returned v ∧ Rows.journalNilSpec.post enc Tryd.prog Tryd.f10 false true false false W args v W' := by
  have hW' := hW
  obtain ⟨p, q, hA0, hV, rfl, hfz, hnd⟩ := hW
  have hA : DataW.TrodAll enc Tryd.prog W 0 (fun _ => true) true Tryd.f10.params.toList args.toList ds p := hA0
  rw [Tryd.params10] at hA hval hsz
  obtain ⟨v0, vs0, d0, ds0, p0, q0, hargs, rfl, rfl, h0, r0⟩ := trodAll_cons hA
  obtain ⟨v1, vs1, d1, ds1, p1, q1, rfl, rfl, rfl, h1, r1⟩ := trodAll_cons r0
  obtain ⟨rfl, rfl, rfl⟩ := trodAll_nil r1
  obtain rfl : args = #[v0, v1] := by cases args; simp_all
  obtain ⟨rfl, rfl⟩ := trodVars_none hV
  obtain ⟨k0, A0, c0, l0, rfl, hc0, hn0, hb0, hm0⟩ := Base.open_rec (hval 0 50 v0 rfl rfl) h0 (Base.wt_of hsz (j := 0) rfl rfl)
  obtain ⟨n1, rfl, rfl, rfl, w1⟩ := open_int Tryd.underlying3 (hval 1 3 v1 rfl rfl) h1
  clear hA0
  simp only [List.append_nil] at hW'
  have hlt : ∀ x, x ∈ p0 → x.block < W.heap.size := fun x hx => hW'.lt x (by simpa using hx)
  refine (jnil_walk k0 A0 c0 l0 hb0 hn0 hc0 n1 W (Base.fmS hL) hm0).mono fun e W' ⟨he, bel⟩ => ?_
  subst he
  exact ⟨_, rfl, _, _, _, [], _, [], hW', trodAll_mk1 (shut_bool Tryd.underlying4 _), (trodAll_cons_mk (Below.trod Base.laidOut (by kernel_rfl) (of_decide_eq_true (by kernel_rfl)) h0 bel (fun x hx => hlt x hx)) (trodAll_cons_mk (shut_int Tryd.underlying3 w1) trodAll_mk0)), rfl, Below.frame bel _, fun h => by cases h⟩

theorem laid_met (os : Os) : laidMet Tryd.prog Rows.journalNilRow.laid ((Base.laidWorld os).forCall (fun _ _ => 0) ⟨#[], #[Value.agg #[.int .i64 0, .slice none 0 0], Value.int .i64 0], []⟩).memory :=
  laidMet_of_run' 8 (by kernel_rfl) (by kernel_rfl)
theorem reads (os : Os) {H : Type} (enc : TypeId × Value → H) : ∃ places, DataW.whole enc Tryd.prog ((Base.laidWorld os).forCall (fun _ _ => 0) ⟨#[], #[Value.agg #[.int .i64 0, .slice none 0 0], Value.int .i64 0], []⟩).memory Tryd.f10.params.toList Rows.journalNilSpec.vars false (#[Value.agg #[.int .i64 0, .slice none 0 0], Value.int .i64 0] : Array Value).toList 8 = some ([.agg [.lit (.int .i64 0), .nil], .lit (.int .i64 0)], [], places) :=
  ⟨[], by kernel_rfl⟩

set_option maxRecDepth 100000 in
theorem lifted (os : Os) (started : os.Started) (H : Type) (enc : TypeId × Value → H) (F : Stop.Interp) :
    ReturnsInHanded {} Tryd.checked os 10 .any ((OpenSpec.ofChange Rows.journalNilSpec).preRow enc Tryd.prog Tryd.f10 Rows.journalNilRow.domain false Rows.journalNilRow.laid) (((OpenSpec.ofChange Rows.journalNilSpec).at F).post enc Tryd.prog Tryd.f10 false true false false) := by
  obtain ⟨places, hx⟩ := reads os enc
  refine returnsInHanded_of_row (C := Tryd.checked) (s := OpenSpec.ofChange Rows.journalNilSpec) Base.own started (by kernel_rfl) Tryd.func10
    (witness_row_at (enc := enc) (C := Tryd.checked) false (Base.laidWorld os) #[Value.agg #[.int .i64 0, .slice none 0 0], Value.int .i64 0] rfl (by kernel_rfl) (by kernel_rfl) (by kernel_rfl)
      (OpenSpec.preRow_of_cond 8 hx (by kernel_rfl) (fun k hk => by cases hk) (by kernel_rfl) (laid_met os))) ?_
  intro W base args ds gs before hval hW _ _ hsz hL _ _
  exact contract H enc W base args ds gs before hval hW hsz hL

theorem said : Rows.JournalNilSaid :=
  OpenClaim.holds_of_cond 10 Tryd.f10 rfl rfl rfl rfl rfl rfl rfl ⟨rfl, rfl, rfl, rfl, rfl⟩ rfl rfl rfl rfl rfl (by kernel_rfl) Tryd.func10 (by kernel_rfl)
    (of_decide_eq_true (by kernel_rfl)) (by unfold Func.isWrapper; first | (rw [if_pos (by decide +kernel)]; kernel_rfl) | (rw [if_neg (by decide +kernel)]; exact ⟨rfl, rfl⟩))
    (fun os started H enc _ F => by rw [OpenClaim.pre_eq_preRow]; exact lifted os started H enc F)

theorem plain (f : FuncId) (fn : Func) (hf : Tryd.pinned.checked.prog.funcNamed "binnacle/binnaclelaw22.JournalNil" = some f) (hfn : Tryd.pinned.checked.prog.funcs[f]? = some fn) :
    false = Tryd.pinned.checked.prog.looks [] ∧ ∀ (j : Nat) t, fn.params[j]? = some t → Tryd.pinned.checked.prog.wantsStandIn t = false := by
  obtain rfl : f = 10 := Option.some.inj ((show Tryd.prog.funcNamed "binnacle/binnaclelaw22.JournalNil" = some 10 by kernel_rfl).symm.trans hf) |>.symm
  obtain rfl : fn = Tryd.f10 := (Option.some.inj (Tryd.func10.symm.trans hfn)).symm
  refine ⟨by kernel_rfl, fun j t ht => ?_⟩
  rw [Tryd.params10] at ht
  have hm := Array.mem_of_getElem? ht
  have hm' : t = 50 ∨ t = 3 := by simpa using hm
  rcases hm' with rfl | rfl
  · exact (show Tryd.prog.wantsStandIn 50 = false by kernel_rfl)
  · exact (show Tryd.prog.wantsStandIn 3 = false by kernel_rfl)

/-- THE CARD -/
theorem card : Rows.JournalNilCardSaid :=
  Claim7.holds_tied_plain_at .later [] _ _ _ _ said (fun _ h => by cases h) (by kernel_rfl) (fun _ h => by cases h) journalNil_row_tie rfl ⟨rfl, rfl⟩ (by kernel_rfl) rfl plain (by kernel_rfl)
#print axioms card
end Go.Proofs.YtpmjlaiafgbjgaaDoor.journalNil
end
