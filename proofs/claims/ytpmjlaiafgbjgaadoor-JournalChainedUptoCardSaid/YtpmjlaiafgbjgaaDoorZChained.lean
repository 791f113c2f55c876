/- The card of JournalChained: whatever the input, the call returns true and the input reads as it did; the format holds what the program's text lays. -/
import Derived.RangeFuncNested
import Derived.RangeFuncBound
import Derived.RangeFuncCalls
import Derived.RangeFuncLeaves
import Derived.OwnWalkIn
import Derived.Shelf.Abstract
import Derived.Shelf.RegionOpen
import Derived.TacticsInMore
import Derived.LoopNIn
import Derived.LoopIn
import Derived.RangeFuncBox
import Derived.Laws.BitsAllLaws
import Derived.Test.YtpmjlaiafgbjgaaDoorCards
import Derived.Test.YtpmjlaiafgbjgaaDoorTie
import Derived.WalkKit
import Derived.ProofKit
import Derived.OpenShut
import Derived.ShutString
import Derived.ChangeOld
import Derived.ChangeSlices
import Derived.Below
import Derived.Carry
import Derived.SizedLaws
import Derived.Deep.DeepHandedRow
import Derived.Deep.Strs
import Derived.Lib.LaidTab
import Derived.Lib.SmallJoins
import Derived.Deep.Slices
import Derived.Test.YtpmjlaiafgbjgaaDoorK1
import Derived.Test.YtpmjlaiafgbjgaaDoorK2
import Derived.Test.YtpmjlaiafgbjgaaDoorK3
import Derived.Test.YtpmjlaiafgbjgaaDoorK5
import Derived.Test.YtpmjlaiafgbjgaaDoorK7
set_option linter.unusedVariables false
set_option linter.unusedSimpArgs false
section
namespace Go.Proofs.YtpmjlaiafgbjgaaDoor
open Go.RowKit
section
variable {F : Fence} {n : Nat} {P : Program}
def SeqT {α : Type} (F : Fence) (n : Nat) (P : Program) (g : Nat) (lb : Array Value) (encs : α → Array Value) (Kp : World → World → Prop) (T : α → World → Prop) (S : List α → Prop) (N : Nat) (w : World) : Prop :=
  ∀ (l : Nat) (J : List α → World → Prop) (W : World), Below w.heap.size w W → AbidesFrom W.heap.size J →
    (∀ pre x W1, J pre W1 → T x W1 → pre.length < N → YieldAt F (n - 1) P l (encs x) W1 fun e W' => e = .returned (.bool true) ∧ J (pre ++ [x]) W' ∧ Kp W1 W') →
    J [] W → CallsIn F n P g (#[.func (.yield l) #[] #[]] ++ lb) W fun e W' => (∃ v, e = .returned v) ∧ ∃ xs, S xs ∧ J xs W'
def goesOn (Q : World → Prop) : Exit → Act → World → Prop
  | .normal, _, W => Q W
  | _, _, _ => False
def loopRec (fn : FuncId) (a : Act) (ps : Array Tmp) (assign body : Code) (D : Nat) (st : LoopState) (pe : Option Code) : Loop := { state := st, pending := pe, fn, tmps := a.tmps, params := ps, assign, body, defers := D }
theorem range_T {α : Type} {g : Operand} {ps : Array Tmp} {assign body : Code} {Q : Exit → Act → World → Prop} {a : Act} {w : World}
    (hro : F.round = none) (h1 : 1 ≤ n) {gf : Nat} {lb : Array Value} (hg : a.eval g = .func (.func gf) #[] lb) (hFg : F.fn gf) (eg : ∀ args w, (callFunc gf args).run P w = .ok (.enter gf args) w)
    {encs : α → Array Value} {Kp : World → World → Prop} {T : α → World → Prop} {S : List α → Prop} {M : Nat} (hseq : SeqT F (n - 1) P gf lb encs Kp T S M w)
    (hKt : ∀ {A B C : World}, Kp A B → Kp B C → Kp A C) (hKb : ∀ (W : World) (l : Nat) (o o' : Obj), w.heap.size ≤ l → W.heap[l]? = some o → o.isCells = false → Kp W (W.putObj l o')) (hps : ∀ x, (encs x).size = ps.size)
    (I : List α → World → Prop) (hI : OwnFrom w.heap.size I) (h0 : I [] w) (Ax : α → Act → World → Prop) (hAx : ∀ x a', OwnFrom w.heap.size (fun (_ : Unit) W => Ax x a' W))
    (hassign : ∀ (l : Nat) (pre : List α) (x : α) (W : World) (K : Act → World → Prop), I pre W → T x W → (∀ a' W', KeepsFrom w.heap.size W W' → Kp W W' → I pre W' → Ax x a' W' → K a' W') →
      assign.wpIn (F.inRound l) (n - 1 - 1) P (Exit.then K (fun _ _ _ => False)) { tmps := (ps.zip (encs x)).foldl (fun t (p, v) => t.setIfInBounds p v) a.tmps, defers := [] } W)
    (hbody : ∀ (l : Nat) (pre : List α) (x : α) (a' : Act) (W : World), I pre W → Ax x a' W → pre.length < M → body.wpIn (F.inRound l) (n - 1 - 1) P (goesOn fun W' => KeepsFrom w.heap.size W W' ∧ Kp W W' ∧ I (pre ++ [x]) W') a' W)
    (hdone : ∀ (D : Nat) (xs : List α) (W : World), w.heap.size ≤ D → S xs → I xs W → W.heap[D]? = some (.deferred (some [])) → Q .normal { a with defers := { target := .collected D, args := #[] } :: a.defers } W) :
    (Code.rangeFunc g ps assign body).wpIn F n P Q a w := by
  refine wpIn_rangeFunc ?_
  intro fn hfn
  rw [hro]
  obtain ⟨rc, hrc⟩ : ∃ rc, rc = loopRec fn a ps assign body w.heap.size := ⟨_, rfl⟩
  obtain ⟨N, hN⟩ : ∃ N, N = w.heap.size := ⟨_, rfl⟩
  obtain ⟨W1, hW1⟩ : ∃ W1, (w.alloc (.deferred (some []))).alloc (.loop (rc .ready none)) = W1 := ⟨_, rfl⟩
  have hL1 : W1.heap[N + 1]? = some (.loop (rc .ready none)) := by
    rw [← hW1, hN]; have := World.alloc_heap_new (w.alloc (.deferred (some []))) (.loop (rc .ready none)); rwa [World.size_alloc] at this
  have hK1 : W1.heap[N]? = some (.deferred (some [])) := by
    rw [← hW1, hN]; exact (Below.heap_alloc _ _ _ (by simp)).trans (World.alloc_heap_new w _)
  have hI1 : I [] W1 := by rw [← hW1]; exact hI.alloc _ (hI.alloc _ h0)
  have hb1 : Below w.heap.size w W1 := by rw [← hW1]; exact ((Below.refl _ w).alloc (Nat.le_refl _) _).alloc (by simp) _
  refine ⟨N + 1, [{ target := .collected N, args := #[] }], W1, { target := .fn (.func gf) lb, args := #[.func (.yield (N + 1)) #[] #[]] }, W1, gf,
    #[.func (.yield (N + 1)) #[] #[]] ++ lb, W1, ?_, ?_, ?_, ?_, fun _ => h1, ?_⟩
  · rw [← hW1, hrc, hN]; exact run_enterLoop_outer _ _ _ _ _
  · simp only [resolve, hg]
    simp [go_sem]
  · intro f' hf'; simp [Target.leads] at hf'; subst hf'; exact hFg
  · simp [invoke, go_sem, eg]
  have turn : ∀ {A B : World} {row : Option Nat}, (∀ r, row = some r → W1.heap.size ≤ r ∧ ∃ o : Obj, A.heap[r]? = some o ∧ o.isWalk = true) → (∀ r, row = some r → w.heap.size ≤ r ∧ ∃ o : Obj, A.heap[r]? = some o ∧ o.isCells = false) :=
    fun hr r e => by obtain ⟨hB, o, ho, hw⟩ := hr r e; exact ⟨Nat.le_trans hb1.size hB, o, ho, Obj.not_cells_of_walk hw⟩
  refine (hseq (N + 1) (fun pre W => I pre W ∧ W.heap[N + 1]? = some (.loop (rc .ready none)) ∧ W.heap[N]? = some (.deferred (some []))) W1 hb1
    (fun s A B row hs hg' hr => ⟨hI s A B row hs.1 hg' (turn (B := B) hr), (grownBy_keeps hg' (fun r e => (hr r e).2) hs.2.1 rfl).trans hs.2.1, (grownBy_keeps hg' (fun r e => (hr r e).2) hs.2.2 rfl).trans hs.2.2⟩) ?_ ⟨hI1, hL1, hK1⟩).mono ?_
  · rintro pre x W ⟨hi, hl, hk⟩ ht hlen
    have hy := run_yield (P := P) (args := encs x) hl (by rw [hrc]; exact hps x)
    rw [hrc] at hy
    refine ⟨fn, _, assign, body, hy, roundIn_of_wpIn hfn (hassign _ pre x W _ hi ht ?_)⟩
    intro a' Wa kf kp hia hax
    have hla := kf.same _ _ (by omega) hl rfl
    have hka := kf.same _ _ (by omega) hk rfl
    have hlt : N + 1 < Wa.heap.size := (Array.getElem?_eq_some_iff.1 hla).1
    refine ⟨_, run_beginRound hla (by rw [hrc]; rfl), ?_⟩
    obtain ⟨bz, hbz⟩ : ∃ bz : Loop, bz = { rc .ready none with state := .busy } := ⟨_, rfl⟩
    rw [← hbz]
    have hl2 : (Wa.putObj (N + 1) (.loop bz)).heap[N + 1]? = some (.loop bz) := World.putObj_heap_same hlt
    have hk2 : (Wa.putObj (N + 1) (.loop bz)).heap[N]? = some (.deferred (some [])) := (World.putObj_heap_other (by omega)).trans hka
    refine wpIn_mono (hbody _ pre x a' _ (hI.putObj _ hia (by omega) hla rfl) ((hAx x a').putObj (s := ()) _ hax (by omega) hla rfl) hlen) ?_
    rintro e a3 W3 hp
    cases e with
    | normal =>
      obtain ⟨k3, kp3, hi3⟩ := hp
      have hl3 := k3.same _ _ (by omega) hl2 rfl
      have hk3 := k3.same _ _ (by omega) hk2 rfl
      have hend := run_endRound (P := P) none hl3
      rw [hbz, hrc] at hend
      rw [hbz, hrc] at hl3
      refine ⟨_, _, hend, rfl, ⟨hI.putObj _ hi3 (by omega) hl3 rfl, ?_, (World.putObj_heap_other (by omega)).trans hk3⟩, hKt kp (hKt (hKt (hKb _ _ _ _ (by omega) hla rfl) kp3) (hKb _ _ _ _ (by omega) hl3 rfl))⟩
      rw [hrc]
      exact World.putObj_heap_same (Array.getElem?_eq_some_iff.1 hl3).1
    | _ => exact hp.elim
  · rintro e W2 ⟨⟨v, rfl⟩, xs, hS, hi, hl, hk⟩
    have hend := run_endLoop (P := P) hl (by rw [hrc]; simp [loopRec])
    rw [hrc] at hend
    exact ⟨none, _, hend, hdone N xs _ (by omega) hS (hI.putObj _ hi (by omega) hl rfl) ((World.putObj_heap_other (by omega)).trans hk)⟩
end
end Go.Proofs.YtpmjlaiafgbjgaaDoor
end
section
namespace Go.Proofs.YtpmjlaiafgbjgaaDoor
open Go.RowKit
theorem LogS.listB {w : World} {S : Nat → Prop} {xb : Nat} {rs : List Rec} (h : LogS w S xb rs) : ∃ Al cl, w.cell? ⟨xb, 1, none⟩ = some (.slice Al rs.length cl) ∧ rs.length ≤ cl ∧ RecB w Al (rs.map Rec.i) := by
  obtain ⟨hS, hmade, hfirm, ps, lv, kv, bv, hps, p1, p2, p3, hRW, hown⟩ := h
  obtain ⟨Al, cl, rfl, hcl, hB, _, _⟩ := RecsO.at (rs := rs.map Rec.i) ⟨ps, hps, hRW.recs⟩
  rw [List.length_map] at hcl p1
  exact ⟨Al, cl, p1, hcl, hB⟩
set_option maxRecDepth 100000 in
set_option maxHeartbeats 1000000 in
theorem Get_log (S : Nat → Prop) (xb : Nat) (rs : List Rec) (i : Nat) (r : Rec) (hr : rs[i]? = some r) (hrd : r.data.length ≤ 70368744177664) (w : World) (hP : LogS w S xb rs) : Calls Tryd.prog 35 #[.pointer (some ⟨xb, 0, none⟩), .int .i64 (i : Int)] w fun e w' => ∃ v, e = .returned (.tuple #[.agg #[.int .i64 (r.kind : Int), v], .int .i64 0]) ∧ OwnB w' w.heap.size v r.data ∧ Within w w' := by
  have h0 := hP.made
  have hxb := hP.lt
  obtain ⟨Al, cl, h1, hcl, hRB⟩ := hP.listB
  obtain ⟨hlt, _⟩ := List.getElem?_eq_some_iff.1 hr
  obtain ⟨g, Dv, cv, rfl, l1, y0, y1, hcv, hs1, _⟩ := hRB i r.i (by rw [List.getElem?_map, hr]; rfl)
  have x0 : w.cell? ⟨g, i * 2, none⟩ = some (.int .i64 (r.kind : Int)) := y0
  have x1 : w.cell? ⟨g, i * 2 + 1, none⟩ = some (.slice Dv r.data.length cv) := y1
  have hs1 : SlAt w Dv (u8v r.data) := hs1
  clear y0 y1
  obtain ⟨Z, hZ⟩ : ∃ Z, Z = w.alloc (.cells #[.int .i64 0, .slice none 0 0] 50) := ⟨_, rfl⟩
  have hZs : Z.heap.size = w.heap.size + 1 := by rw [hZ]; simp
  have iZ : Within w Z := by rw [hZ]; exact (Within.refl w).alloc _
  have zh0 : Z.cell? ⟨xb, 0, none⟩ = some (.int .i64 1) := (iZ.cells _ _ hxb).trans h0
  obtain ⟨W1, hW1⟩ : ∃ W, W = Z.alloc (.cells #[.int .i64 (r.kind : Int), .slice Dv r.data.length cv] 50) := ⟨_, rfl⟩
  have i1 : Within Z W1 := by rw [hW1]; exact (Within.refl Z).alloc _
  have hws : W1.heap.size = w.heap.size + 2 := by rw [hW1]; simp [hZs]
  have q0 : W1.cell? ⟨w.heap.size, 0, none⟩ = some (.int .i64 0) := (i1.cells _ _ (by omega)).trans (by rw [hZ]; simp)
  have q1 : W1.cell? ⟨w.heap.size, 1, none⟩ = some (.slice none 0 0) := (i1.cells _ _ (by omega)).trans (by rw [hZ]; simp)
  have qf0 : W1.frozen? ⟨w.heap.size, 0, none⟩ = false := (i1.frozens _ _ (by omega)).trans (by rw [hZ]; simp)
  have qf1 : W1.frozen? ⟨w.heap.size, 1, none⟩ = false := (i1.frozens _ _ (by omega)).trans (by rw [hZ]; simp)
  have qs : w.heap.size < W1.heap.size := by omega
  have z0 : W1.cell? ⟨Z.heap.size, 0, none⟩ = some (.int .i64 (r.kind : Int)) := by rw [hW1]; simp
  have z1 : W1.cell? ⟨Z.heap.size, 1, none⟩ = some (.slice Dv r.data.length cv) := by rw [hW1]; simp
  have zs : Z.heap.size < W1.heap.size := by omega
  have CL := Lib.hid (fun W (h : Within W1 W) => clone_any Dv cv r.data hrd W (hs1.of ((iZ.trans i1).trans h)))
  have IS : Hid (Calls Tryd.prog 43 #[.pointer (some ⟨xb, 0, none⟩)] Z fun e w' => e = .returned (.bool true) ∧ w' = Z) := Lib.hid (is_true xb Z zh0)
  have b0 : ((i : Int) < 0) = False := by simp
  have b1 : decide ((rs.length : Int) ≤ (i : Int)) = false := decide_eq_false (by omega)
  have b2 : (0 : Int) ≤ (i : Int) := by omega
  have b3 : (i : Int) < (rs.length : Int) := by omega
  obtain ⟨n, hn⟩ : ∃ n, rs.length = n := ⟨_, rfl⟩
  rw [hn] at h1 hcl b1 b3 hlt
  obtain ⟨nd, hnd⟩ : ∃ n, r.data.length = n := ⟨_, rfl⟩
  rw [hnd] at x1 CL hW1 z1
  obtain ⟨k, hk⟩ : ∃ k, r.kind = k := ⟨_, rfl⟩
  rw [hk] at x0 hW1 z0 ⊢
  have zh1 := (iZ.cells _ 1 hxb).trans h1
  have zx0 := (iZ.cells _ (i * 2) l1).trans x0
  have zx1 := (iZ.cells _ (i * 2 + 1) l1).trans x1
  have zg := Nat.lt_of_lt_of_le l1 iZ.size
  have zxb := Nat.lt_of_lt_of_le hxb iZ.size
  have HZ := Lib.hid hZ; have HW1 := Lib.hid hW1; clear hZ hW1
  have HI := Lib.hid (iZ.trans i1); have HWS := Lib.hid hws; have HZS := Lib.hid hZs; have HND := Lib.hid hnd
  clear hP hr hRB hs1 hcv hn hnd hk iZ i1 hrd h0 h1 x0 x1 hxb l1 hZs hws
  go_enter Tryd.func35, Tryd.ntmps35
  go_wp2_with fail
  rw [← HZ.out]
  refine IS.out.mono ?_; rintro e1 w1 ⟨rfl, rfl⟩
  have zne : ¬ w1.heap.size = w.heap.size := by rw [HZS.out]; omega
  go_wp2_with fail
  rw [← HW1.out]
  refine wp_region_schT (fun j => j = w.heap.size) (fun W => W.cell? ⟨w.heap.size, 0, none⟩ = some (.int .i64 0) ∧ W.cell? ⟨w.heap.size, 1, none⟩ = some (.slice none 0 0) ∧ W.frozen? ⟨w.heap.size, 0, none⟩ = false ∧ W.frozen? ⟨w.heap.size, 1, none⟩ = false ∧ w.heap.size < W.heap.size ∧ W.cell? ⟨w1.heap.size, 0, none⟩ = some (.int .i64 (k : Int)) ∧ W.cell? ⟨w1.heap.size, 1, none⟩ = some (.slice Dv nd cv) ∧ w1.heap.size < W.heap.size ∧ Within W1 W) 7 (.firm 0 (.firm 1 (.firm 2 (.firm 3 (.one 4 (.firm 5 (.one 6 (.one 7 .nil)))))))) (by kernel_rfl) (by kernel_rfl) ⟨q0, q1, qf0, qf1, qs, z0, z1, zs, Within.refl _⟩ ?_
  rintro w0 ⟨q0, q1, qf0, qf1, qs, z0, z1, zs, hw0⟩
  try simp only [Act.put, List.setIfInBounds_toArray, List.set_cons_zero, List.set_cons_succ]
  iterate 4
    apply sch_firm rfl rfl (by repeat (first | with_reducible exact ButS.refl _ _ | with_reducible assumption | with_reducible refine ButS.drew ?_ | with_reducible refine ButS.alloc ?_ _ | with_reducible refine ButS.within ?_ (by assumption)))
    · intro wq hq
      have g0 := (hq.cells _ 0 zs zne).trans z0
      have g1 := (hq.cells _ 1 zs zne).trans z1
      have g2 := Nat.lt_of_lt_of_le zs hq.size
      clear hq
      go_simp
      rfl
    try simp only [Act.put, List.setIfInBounds_toArray, List.set_cons_zero, List.set_cons_succ]
  refine sch_one rfl rfl (fun K hK => ?_)
  go_simp
  refine (CL.out _ (by exact hw0.drew)).mono ?_; rintro e2 w2 ⟨v2, rfl, hO2, h2⟩
  obtain ⟨A2, c2, rfl, _, _, _⟩ := hO2.form
  rw [HND.out] at hO2 ⊢
  have HO2 := Lib.hid hO2; have H2 := Lib.hid (hw0.drew.trans h2)
  have BK : Hid (ButS (fun j => j = w.heap.size) w0 w2) := Lib.hid (ButS.in_ ((Within.refl w0).drew.trans h2))
  have c0 := (h2.cells w.heap.size 0 qs).trans q0
  have c1 := (h2.cells w.heap.size 1 qs).trans q1
  have cf0 := (h2.frozens w.heap.size 0 qs).trans qf0
  have cf1 := (h2.frozens w.heap.size 1 qs).trans qf1
  have cs := Nat.lt_of_lt_of_le qs h2.size
  clear hO2
  refine hK _ _ (fun _ => (by first | exact (BK.out.set (p := ⟨w.heap.size, 0, none⟩) (.inl rfl) _).set (p := ⟨w.heap.size, 1, none⟩) (.inl rfl) _ | (repeat (first | with_reducible exact ButS.refl _ _ | with_reducible assumption | with_reducible refine ButS.drew ?_ | with_reducible refine ButS.within ?_ (by assumption))))) ?_
  clear hK K
  try simp only [Act.put, List.setIfInBounds_toArray, List.set_cons_zero, List.set_cons_succ]
  apply sch_firm rfl rfl (by repeat (first | with_reducible exact ButS.refl _ _ | with_reducible assumption | with_reducible refine ButS.drew ?_ | with_reducible refine ButS.alloc ?_ _ | with_reducible refine ButS.within ?_ (by assumption)))
  · intro wq hq
    have g0 := (hq.cells _ 0 zs zne).trans z0
    have g1 := (hq.cells _ 1 zs zne).trans z1
    have g2 := Nat.lt_of_lt_of_le zs hq.size
    clear hq
    go_simp
    rfl
  try simp only [Act.put, List.setIfInBounds_toArray, List.set_cons_zero, List.set_cons_succ]
  refine sch_one rfl rfl (fun K hK => ?_)
  go_simp
  refine hK _ _ (fun _ => (by first | exact (BK.out.set (p := ⟨w.heap.size, 0, none⟩) (.inl rfl) _).set (p := ⟨w.heap.size, 1, none⟩) (.inl rfl) _ | (repeat (first | with_reducible exact ButS.refl _ _ | with_reducible assumption | with_reducible refine ButS.drew ?_ | with_reducible refine ButS.within ?_ (by assumption))))) ?_
  clear hK K
  try simp only [Act.put, List.setIfInBounds_toArray, List.set_cons_zero, List.set_cons_succ]
  refine sch_one rfl rfl (fun K hK => ?_)
  go_simp
  refine hK _ _ (fun h => absurd h (by decide)) ?_
  clear hK K
  try simp only [Act.put, List.setIfInBounds_toArray, List.set_cons_zero, List.set_cons_succ]
  refine sch_nil ?_
  have hK : But w.heap.size w2 ((w2.setCell ⟨w.heap.size, 0, none⟩ (.int .i64 (k : Int))).setCell ⟨w.heap.size, 1, none⟩ (.slice A2 nd c2)) := ((But.refl _ w2).set (p := ⟨w.heap.size, 0, none⟩) (.inl rfl) _).set (p := ⟨w.heap.size, 1, none⟩) (.inl rfl) _
  have hI9 : Within w ((w2.setCell ⟨w.heap.size, 0, none⟩ (.int .i64 (k : Int))).setCell ⟨w.heap.size, 1, none⟩ (.slice A2 nd c2)) := ((HI.out.trans H2.out).setCell (Nat.le_refl _) _).setCell (Nat.le_refl _) _
  have hO9 := HO2.out.but hK (by exact qs)
  have HO9 := Lib.hid (hO9.less (Nat.le_of_lt (by exact qs)))
  have HI9 := Lib.hid hI9; clear hK hI9 hO9
  go_wp2
  refine bodyPost_ret (v := .tuple #[.agg #[.int .i64 (k : Int), .slice A2 nd c2], .int .i64 0]) (by simp [results, Tryd.results35, go_sem, c0, c1, cf0, cf1, cs]) rfl ⟨_, rfl, HO9.out, HI9.out⟩
end Go.Proofs.YtpmjlaiafgbjgaaDoor
end
section
namespace Go.Proofs.YtpmjlaiafgbjgaaDoor
open Go.RowKit
attribute [local go_sem] Oper.semAt_some
structure Yd where
  i : Nat
  k : Int
  v : Value
  d : List Nat
def Yd.enc (x : Yd) : Array Value := #[.int .i64 (x.i : Int), .agg #[.int .i64 x.k, x.v]]
def Yd.at_ (n₀ : Nat) (x : Yd) (W : World) : Prop := OwnB W n₀ x.v x.d ∧ Bytes x.d ∧ x.d.length ≤ 1048576
def YdAll (rs : List Rec) (m : Nat) (xs : List Yd) : Prop := xs.map (fun x => ((x.k, x.d) : IRec)) = (rs.map Rec.i).drop m ∧ ∀ j x, xs[j]? = some x → x.i = m + j
def YdPre (rs : List Rec) (m : Nat) (pre : List Yd) : Prop := pre.map (fun x => ((x.k, x.d) : IRec)) = ((rs.map Rec.i).drop m).take pre.length ∧ (∀ j x, pre[j]? = some x → x.i = m + j) ∧ m + pre.length ≤ rs.length
theorem YdPre.nil {rs : List Rec} {m : Nat} (h : m ≤ rs.length) : YdPre rs m [] := ⟨rfl, fun j x hx => by simp at hx, h⟩
theorem YdPre.more {rs : List Rec} {m : Nat} {pre : List Yd} {r : Rec} {v : Value} (h : YdPre rs m pre) (hr : rs[m + pre.length]? = some r) : YdPre rs m (pre ++ [⟨m + pre.length, (r.kind : Int), v, r.data⟩]) := by
  obtain ⟨h1, h2, h3⟩ := h
  obtain ⟨hlt, _⟩ := List.getElem?_eq_some_iff.1 hr
  refine ⟨?_, fun j x hx => ?_, by rw [List.length_append]; simp; omega⟩
  · rw [List.map_append, h1, List.length_append]
    show _ ++ [r.i] = List.take (pre.length + 1) _
    rw [List.take_add_one, List.getElem?_drop, List.getElem?_map, hr]; rfl
  · by_cases hj : j < pre.length
    · rw [List.getElem?_append_left hj] at hx; exact h2 j x hx
    · rw [List.getElem?_append_right (by omega)] at hx
      have hj0 : j - pre.length = 0 := by
        rcases Nat.eq_zero_or_pos (j - pre.length) with h | h
        · exact h
        · rw [List.getElem?_eq_none (by simp; omega)] at hx; cases hx
      rw [hj0] at hx
      have := Option.some.inj hx
      rw [← this]
      show m + pre.length = m + j
      omega
theorem YdPre.all {rs : List Rec} {m : Nat} {pre : List Yd} (h : YdPre rs m pre) (hn : m + pre.length = rs.length) : YdAll rs m pre := by
  obtain ⟨h1, h2, h3⟩ := h
  refine ⟨?_, h2⟩
  rw [h1]
  refine List.take_of_length_le ?_
  rw [List.length_drop, List.length_map]; omega
set_option maxRecDepth 100000 in
set_option maxHeartbeats 1000000 in
theorem Each_any (x : Option Addr) (m : Int) (w : World) : Calls Tryd.prog 37 #[.pointer x, .int .i64 m] w fun e w' => e = .returned (.func (.func 60) #[] #[.pointer (some ⟨w.heap.size, 0, none⟩), .pointer (some ⟨w.heap.size + 1, 0, none⟩)]) ∧ w' = (w.alloc (.cells #[.pointer x] 24)).alloc (.cells #[.int .i64 m] 3) := by
  go_enter Tryd.func37, Tryd.ntmps37
  go_wp2
  go_ret
  exact ⟨rfl, rfl⟩
set_option maxRecDepth 100000 in
set_option maxHeartbeats 1000000 in
theorem Each1_seq (Z S0 : Nat → Prop) (n₀ xb bx bf m : Nat) (rs : List Rec) (hrd : ∀ r ∈ rs, r.data.length ≤ 1048576 ∧ Bytes r.data) (hm : m ≤ rs.length) (hrs : rs.length ≤ 1048576) (w : World) (hn : n₀ ≤ w.heap.size) (hP : LogS w S0 xb rs) (hcx : w.cell? ⟨bx, 0, none⟩ = some (.pointer (some ⟨xb, 0, none⟩))) (hcf : w.cell? ⟨bf, 0, none⟩ = some (.int .i64 (m : Int))) (hz : ∀ j, S0 j → ¬ Z j) (hzx : ¬ Z bx) (hzf : ¬ Z bf) : SeqT Fence.wide 2 Tryd.prog 60 #[.pointer (some ⟨bx, 0, none⟩), .pointer (some ⟨bf, 0, none⟩)] Yd.enc (ButS Z) (Yd.at_ n₀) (YdAll rs m) rs.length w := by
  intro l J W hW hJ hY h0
  have hPW : LogS W S0 xb rs := hP.keep fun j _ hl => hW.block j hl
  have hbx : W.cell? ⟨bx, 0, none⟩ = some (.pointer (some ⟨xb, 0, none⟩)) := (hW.cell (p := ⟨bx, 0, none⟩) (World.block_lt_of_cell? _ _ hcx)).trans hcx
  have hbf : W.cell? ⟨bf, 0, none⟩ = some (.int .i64 (m : Int)) := (hW.cell (p := ⟨bf, 0, none⟩) (World.block_lt_of_cell? _ _ hcf)).trans hcf
  have hn0 : n₀ ≤ W.heap.size := Nat.le_trans hn hW.size
  have hbxl := World.block_lt_of_cell? _ _ hbx
  have hbfl := World.block_lt_of_cell? _ _ hbf
  have hxbl := hPW.lt
  have LN := Lib.hid (Len_log S0 xb rs W hPW)
  have HPW := Lib.hid hPW; clear hPW hP hcx hcf hW
  have hmx : max (m : Int) 0 = (m : Int) := by omega
  refine callsIn_of_wp Tryd.func60 rfl trivial ?_ rfl
  simp only [Tryd.ntmps60, List.size_toArray, List.length_cons, List.length_nil, Nat.reduceAdd, Nat.reduceSub, Array.replicate_succ, Array.replicate_zero, List.push_toArray, List.append_toArray, List.nil_append, List.cons_append]
  gi_wp2_with (refine ⟨trivial, ?_⟩; gi_at_call 20; refine (callsIn_wide.2 LN.out).mono ?_; rintro e1 w1 ⟨rfl, hw1⟩; have hw2 := hw1.symm; subst hw2)
  gi_loopw [5] (fun iv wr => ∃ pre : List Yd, iv = .int .i64 ((m + pre.length : Nat) : Int) ∧ YdPre rs m pre ∧ J pre wr ∧ ButS Z W wr) (fun iv _ => rs.length - (intOf iv).toNat)
  case atStart => exact ⟨[], by simp, YdPre.nil hm, h0, ButS.refl _ _⟩
  case round =>
    obtain ⟨pre, rfl, hpre, hJs, hbut⟩ := hrel
    have hxl := Nat.lt_of_lt_of_le hbxl hbut.size
    have hfl := Nat.lt_of_lt_of_le hbfl hbut.size
    have hbx' := (hbut.cells _ 0 hbxl hzx).trans hbx
    have hPr := HPW.out.butS hbut (fun j hj _ => hz j hj)
    obtain ⟨k, hk⟩ : ∃ k, m + pre.length = k := ⟨_, rfl⟩
    by_cases hlt : k < rs.length
    · obtain ⟨r, hr⟩ : ∃ r, rs[k]? = some r := ⟨_, List.getElem?_eq_getElem hlt⟩
      have GL := Lib.hid (Get_log S0 xb rs k r hr (by have := (hrd r (List.mem_of_getElem? hr)).1; omega) wr hPr)
      have hmore := fun v => hpre.more (r := r) (v := v) (by rw [hk]; exact hr)
      rw [hk] at hmore
      have HR := Lib.hid (And.intro (hrd r (List.mem_of_getElem? hr)).2 (hrd r (List.mem_of_getElem? hr)).1)
      have HY : Hid (∀ w2 v2, OwnB w2 wr.heap.size v2 r.data → Within wr w2 → YieldAt Fence.wide (2 - 1) Tryd.prog l (Yd.enc ⟨k, (r.kind : Int), v2, r.data⟩) (w2.alloc (.cells #[.int .i64 (r.kind : Int), v2] 50)) fun e W' => e = .returned (.bool true) ∧ J (pre ++ [⟨k, (r.kind : Int), v2, r.data⟩]) W' ∧ ButS Z (w2.alloc (.cells #[.int .i64 (r.kind : Int), v2] 50)) W') := Lib.hid (fun w2 v2 hO h => hY pre _ _ (hJ _ _ _ none hJs (within_grown (h.alloc _)) (fun r e => by cases e)) ⟨(hO.less (Nat.le_trans hn0 hbut.size)).of ((Within.refl _).alloc _), HR.out⟩ (by omega))
      have b1 : (k : Int) < (rs.length : Int) := by omega
      obtain ⟨kd, hkd⟩ : ∃ k, (r.kind : Int) = k := ⟨_, rfl⟩
      rw [hkd] at GL HY hmore
      obtain ⟨nd, hnd⟩ : ∃ n, r.data.length = n := ⟨_, rfl⟩
      have HND := Lib.hid hnd
      have HB := Lib.hid hbut; have HM := Lib.hid hmore; have HK := Lib.hid hk; clear hmore hbut hPr hr hkd hnd hpre hJs
      rw [HK.out]
      gi_wp2_with (refine ⟨trivial, ?_⟩; gi_at_call 35; refine (callsIn_wide.2 GL.out).mono ?_; rintro e2 w2 ⟨v2, rfl, hO2, h2⟩; obtain ⟨A2, c2, rfl, _, _, _⟩ := hO2.form; obtain ⟨fn, tmps, assign, body, hy, hR⟩ := HY.out w2 _ hO2 h2; dsimp only [Yd.enc] at hy; rw [HND.out] at hy hR ⊢)
      refine hR.mono ?_; rintro e3 W3 ⟨rfl, hJ3, hk3⟩
      have hb3 : ButS Z W W3 := (HB.out.within (h2.alloc _)).trans hk3 fun _ _ h => h
      have HB3 := Lib.hid hb3; clear hb3 hk3 h2 hO2
      gi_wp2
      go_roundw
      case rel => exact ⟨_, by rw [List.length_append]; show Value.int _ _ = Value.int _ _; congr 1; have := HK.out; simp; omega, HM.out _, hJ3, HB3.out⟩
      case measure => simp [intOf]; omega
    · obtain rfl : k = rs.length := by have := hpre.2.2; omega
      have hall := hpre.all hk
      have HA := Lib.hid hall; clear hall hbut hpre
      rw [hk]
      gi_wp2
      go_end0
      exact ⟨⟨_, rfl⟩, pre, HA.out, hJs⟩
end Go.Proofs.YtpmjlaiafgbjgaaDoor
end
section
namespace Go.Proofs.YtpmjlaiafgbjgaaDoor
open Go.RowKit
attribute [local go_sem] Oper.semAt_some
theorem wpListIn_append_run {F : Fence} {n : Nat} {P : Program} {w : World} {ops : Array Oper} {rest : List Oper} {o : Oper} {a : Act} {Q : Exit → Act → World → Prop} (hgd : o.guard = none) (s x : Operand) (t : TypeId)
    (ho : o.op = .call { callee := .builtin .append, args := #[s, x], argTypes := #[t, t] }) (vs vx : Value) (hs : a.eval s = vs) (hx : a.eval x = vx) {v' : Value} {w' : World}
    (hrun : (Builtin.append_ #[t, t] o.type #[vs, vx]).run P w = .ok v' w') (h : wpListIn F n P ops Q rest (a.put o.dst v') w') : wpListIn F n P ops Q (o :: rest) a w := by
  refine wpListIn_plain hgd fun K hK' => ?_
  unfold Oper.wpIn
  refine ⟨?_, ?_⟩
  · simp [Oper.about, ho, resolve, Target.leads, Sem.run_pure]
  · rw [Oper.semAt_plain F _ _ (by rw [ho]; intro c hc'; cases hc')]
    simp [execOp, ho, resolve, invoke, builtin, hs, hx, hrun, Result.andThen]
    exact hK' _ _ h
theorem ownsRow_block {w : World} {base : Nat} {e : TypeId} {size : Nat} {v : Value} {n : Nat} {xs : List Value} (h : w.ownsRow base e size v n xs) {j : Nat} (hj : v.ownBlock = some j) : ∃ cur, w.heap[j]? = some (.cells cur e (0, 0)) := by
  rcases h.2 with ⟨rfl, _⟩ | ⟨g, cap, cur, rfl, _, hg, _⟩
  · cases hj
  · obtain rfl : g = j := Option.some.inj hj
    exact ⟨cur, hg⟩
theorem owns_types {w : World} {b1 b2 : Nat} {e1 e2 : TypeId} {s1 s2 n1 n2 : Nat} {u v : Value} {xs ys : List Value} (h : w.ownsRow b1 e1 s1 u n1 xs) (k : w.ownsRow b2 e2 s2 v n2 ys) (hne : e1 ≠ e2) : u.ownBlock = none ∨ u.ownBlock ≠ v.ownBlock := by
  cases hu : u.ownBlock with
  | none => exact .inl rfl
  | some j =>
    refine .inr (fun e => ?_)
    obtain ⟨c1, h1⟩ := ownsRow_block h hu
    obtain ⟨c2, h2⟩ := ownsRow_block k e.symm
    rw [h1] at h2
    injection h2 with h2
    injection h2 with _ h3 _
    exact hne h3
theorem ownsRow_away {w w' : World} {row : Option Nat} {base : Nat} {e : TypeId} {size : Nat} {v : Value} {n : Nat} {xs : List Value} (h : w.ownsRow base e size v n xs) (hg : w.grownBy w' row) (hr : ∀ r, row = some r → ∃ o : Obj, w.heap[r]? = some o ∧ o.isCells = false) : w'.ownsRow base e size v n xs :=
  ownsRow_keep h fun j hj => hg.block j (h.lt j hj).2 (fun e' => by
    obtain ⟨o, ho, hc⟩ := hr j e'.symm
    obtain ⟨cur, hcur⟩ := ownsRow_block h hj
    rw [hcur] at ho
    injection ho with ho
    rw [← ho] at hc
    cases hc)
theorem RecP.away {w w' : World} {row : Option Nat} {base : Nat} {v : Value} {ps : List (IRec × Value)} (h : RecP w base v ps) (hg : w.grownBy w' row) (hr : ∀ r, row = some r → ∃ o : Obj, w.heap[r]? = some o ∧ o.isCells = false) : RecP w' base v ps :=
  ⟨ownsRow_away h.1 hg hr, fun p hp => ⟨ownsRow_away (h.2 p hp).1 hg hr, (h.2 p hp).2⟩⟩
def Yd.p (x : Yd) : IRec × Value := ((x.k, x.d), x.v)
def AllI (n₁ : Nat) (w : World) (pre : List Yd) (W : World) : Prop := (∃ v, Boxed W w.heap.size 31 v ∧ RecP W n₁ v (pre.map Yd.p)) ∧ Below w.heap.size w W ∧ n₁ ≤ W.heap.size
theorem AllI.own (n₁ : Nat) (w : World) {B : Nat} (hB : w.heap.size ≤ B) : OwnFrom B (AllI n₁ w) := by
  rintro s A C row ⟨⟨v, h1, h2⟩, h3, h4⟩ hg hr
  have hr' : ∀ r, row = some r → ∃ o : Obj, A.heap[r]? = some o ∧ o.isCells = false := fun r e => (hr r e).2
  refine ⟨⟨v, h1.kept hg (fun e => ?_), h2.away hg hr'⟩, h3.grown hg h3.size (fun k e => Nat.le_trans hB (hr k e).1), Nat.le_trans h4 hg.size⟩
  obtain ⟨o, ho, hc⟩ := hr' _ e.symm
  rw [show A.heap[w.heap.size]? = _ from h1] at ho
  injection ho with ho
  rw [← ho] at hc
  cases hc
def AllX (n₁ : Nat) (w : World) (a : Nat → Value → Value → Act) (x : Yd) (a' : Act) (W : World) : Prop := ∃ Bx, w.heap.size < Bx ∧ W.heap[Bx]? = some (.cells #[.int .i64 x.k, x.v] 50 (0, 0)) ∧ (OwnB W n₁ x.v x.d ∧ Bytes x.d) ∧ a' = a Bx (.int .i64 (x.i : Int)) (.agg #[.int .i64 x.k, x.v])
theorem AllX.own (n₁ : Nat) (w : World) (a : Nat → Value → Value → Act) (x : Yd) (a' : Act) (B : Nat) : OwnFrom B (fun (_ : Unit) W => AllX n₁ w a x a' W) := by
  rintro s A C row ⟨Bx, h1, h2, ⟨h3, h4⟩, h5⟩ hg hr
  have hr' : ∀ r, row = some r → ∃ o : Obj, A.heap[r]? = some o ∧ o.isCells = false := fun r e => (hr r e).2
  refine ⟨Bx, h1, (hg.block Bx (Array.getElem?_eq_some_iff.1 h2).1 (fun e => ?_)).trans h2, ⟨ownsRow_away h3 hg hr', h4⟩, h5⟩
  obtain ⟨o, ho, hc⟩ := hr' _ e.symm
  rw [h2] at ho
  injection ho with ho
  rw [← ho] at hc
  cases hc
set_option maxRecDepth 100000 in
set_option maxHeartbeats 1000000 in
theorem all_log (S0 : Nat → Prop) (xb : Nat) (rs : List Rec) (hrd : ∀ r ∈ rs, r.data.length ≤ 1048576 ∧ Bytes r.data) (hrs : rs.length ≤ 1048576) (w : World) (hP : LogS w S0 xb rs) (hS : ∀ j, S0 j → j < w.heap.size) : Calls Tryd.prog 23 #[.pointer (some ⟨xb, 0, none⟩)] w fun e w' => ∃ v, e = .returned v ∧ RecsO w' w.heap.size v (rs.map Rec.i) ∧ Within w w' := by
  refine (callsIn_wide (n := 3)).1 ?_
  refine callsIn_of_wp_marks Tryd.func23 rfl trivial ?_ rfl
  simp only [Tryd.ntmps23, List.size_toArray, List.length_cons, List.length_nil, Nat.reduceAdd, Nat.reduceSub, Array.replicate_succ, Array.replicate_zero, List.push_toArray, List.append_toArray, List.nil_append, List.cons_append]
  gi_wp2_with (refine ⟨trivial, ?_⟩; gi_at_call 37; refine (callsIn_wide.2 (Each_any _ _ _)).mono ?_; rintro e1 w1 ⟨rfl, rfl⟩)
  obtain ⟨WL, hWL⟩ : ∃ W, W = (((w.alloc (.cells #[.slice none 0 0] 31)).alloc (.cells #[.pointer (some ⟨xb, 0, none⟩)] 24)).alloc (.cells #[.int .i64 0] 3)) := ⟨_, rfl⟩
  have iL : Within w WL := by rw [hWL]; exact (((Within.refl w).alloc _).alloc _).alloc _
  have hLs : WL.heap.size = w.heap.size + 1 + 1 + 1 := by rw [hWL]; simp
  have bO : Boxed WL w.heap.size 31 (.slice none 0 0) := by rw [hWL]; exact ((Boxed.new w _ _).alloc _).alloc _
  obtain ⟨W1, hW1⟩ : ∃ W, W = w.alloc (.cells #[.slice none 0 0] 31) := ⟨_, rfl⟩
  have h1s : W1.heap.size = w.heap.size + 1 := by rw [hW1]; simp
  obtain ⟨W2, hW2⟩ : ∃ W, W = W1.alloc (.cells #[.pointer (some ⟨xb, 0, none⟩)] 24) := ⟨_, rfl⟩
  have h2s : W2.heap.size = w.heap.size + 1 + 1 := by rw [hW2]; simp [h1s]
  have hL2 : WL = W2.alloc (.cells #[.int .i64 0] 3) := by rw [hWL, hW2, hW1]
  have cx : WL.cell? ⟨w.heap.size + 1, 0, none⟩ = some (.pointer (some ⟨xb, 0, none⟩)) := by rw [hL2]; refine (Within.cells ((Within.refl W2).alloc _) _ _ (by omega)).trans ?_; rw [hW2, ← h1s]; simp
  have cf : WL.cell? ⟨w.heap.size + 1 + 1, 0, none⟩ = some (.int .i64 ((0 : Nat) : Int)) := by rw [hL2, ← h2s]; simp
  have hz : ∀ j, S0 j → ¬ (j = w.heap.size ∨ WL.heap.size ≤ j) := fun j hj h => by have := hS j hj; omega
  have hzx : ¬ (w.heap.size + 1 = w.heap.size ∨ WL.heap.size ≤ w.heap.size + 1) := by omega
  have hzf : ¬ (w.heap.size + 1 + 1 = w.heap.size ∨ WL.heap.size ≤ w.heap.size + 1 + 1) := by omega
  have hwl : w.heap.size < WL.heap.size := by omega
  rw [← hWL]
  have HWL := Lib.hid hWL; clear hWL hW1 hW2 hL2 h1s h2s hLs
  refine range_T rfl (by decide) (gf := 60) (lb := #[.pointer (some ⟨w.heap.size + 1, 0, none⟩), .pointer (some ⟨w.heap.size + 1 + 1, 0, none⟩)]) rfl trivial (enters_of Tryd.func60 (by kernel_rfl) rfl)
    (Each1_seq (fun j => j = w.heap.size ∨ WL.heap.size ≤ j) S0 WL.heap.size xb (w.heap.size + 1) (w.heap.size + 1 + 1) 0 rs hrd (Nat.zero_le _) hrs WL (Nat.le_refl _) (hP.of iL) cx cf hz hzx hzf)
    (fun h k => h.trans k fun _ _ h => h) (fun W l o o' hl h _ => (ButS.refl _ W).grown (grownBy_putObj' W l o') (fun j e => by cases e; exact .inl (.inr hl))) (fun _ => rfl)
    (AllI WL.heap.size w) (AllI.own _ w iL.size) ⟨⟨_, bO, World.ownsRow_nil _ _ _ _, fun p hp => by cases hp⟩, iL, Nat.le_refl _⟩ (AllX WL.heap.size w (fun Bx iv rv => { tmps := #[.pointer (some ⟨xb, 0, none⟩), undef, .slice none 0 0, .pointer (some ⟨w.heap.size, 0, none⟩), undef, .pointer (some ⟨Bx, 0, none⟩), .pointer (some ⟨xb, 0, none⟩), .func (.func 60) #[] #[.pointer (some ⟨w.heap.size + 1, 0, none⟩), .pointer (some ⟨w.heap.size + 1 + 1, 0, none⟩)], iv, rv, undef, undef, undef, undef, undef], defers := [] })) (fun x a' => AllX.own _ _ _ x a' _) ?assign ?body ?done
  case assign =>
    rintro l pre ⟨i, k, v, d⟩ W K hI ⟨hO, hby, _⟩ hK
    have hO : OwnB W WL.heap.size v d := hO
    have hby : Bytes d := hby
    obtain ⟨A, c, rfl, _, _, _⟩ := hO.form
    dsimp only [Yd.enc]
    gi_wp2
    exact hK _ _ ((KeepsOthers.alloc _ _).from _) ((ButS.refl _ W).alloc _) ((AllI.own _ w iL.size).alloc _ hI) ⟨W.heap.size, by obtain ⟨⟨_, h, _⟩, _⟩ := hI; exact h.lt, World.alloc_heap_new W _, ⟨hO.of ((Within.refl W).alloc _), hby⟩, rfl⟩
  case body =>
    rintro l pre ⟨i, k, v, d⟩ a' W ⟨⟨vo, hb, hR⟩, hB, hnw⟩ ⟨Bx, hBx, hcell, ⟨hO, hby⟩, rfl⟩ hlen
    have hO : OwnB W WL.heap.size v d := hO
    have hby : Bytes d := hby
    have hcell : W.heap[Bx]? = some (.cells #[.int .i64 k, v] 50 (0, 0)) := hcell
    obtain ⟨Ao, co, rfl, _, _, _, _⟩ := RecsO.at (rs := (pre.map Yd.p).map Prod.fst) ⟨_, rfl, hR⟩
    obtain ⟨A, c, rfl, _, _, _⟩ := hO.form
    have c0 : W.cell? ⟨Bx, 0, none⟩ = some (.int .i64 k) := by simp [World.cell?, hcell]
    have c1 : W.cell? ⟨Bx, 1, none⟩ = some (.slice A d.length c) := by simp [World.cell?, hcell]
    have cl : Bx < W.heap.size := (Array.getElem?_eq_some_iff.1 hcell).1
    have o0 := hb.cell
    have of := hb.frozen
    have ol := hb.lt
    obtain ⟨v4, w4, hrun, hR4, hg4, hb4⟩ := run_app_recP W WL.heap.size (.slice Ao ((pre.map Yd.p).map Prod.fst).length co) (pre.map Yd.p) (k, d) (.slice A d.length c) hR hO hby (owns_types hO hR.1 (by decide)) (by rw [List.length_map]; omega) hnw
    obtain ⟨A4, c4, rfl, _, _, _, _⟩ := RecsO.at (rs := (pre.map Yd.p ++ [((k, d), Value.slice A d.length c)]).map Prod.fst) ⟨_, rfl, hR4⟩
    have hne : ¬ ((Value.slice Ao ((pre.map Yd.p).map Prod.fst).length co).ownBlock = some w.heap.size) := fun e => by
      obtain ⟨cur, hcur⟩ := ownsRow_block hR.1 e
      have h1 : W.heap[w.heap.size]? = _ := hb
      rw [h1] at hcur
      injection hcur with h2
      injection h2 with _ h3 _
      revert h3; decide
    have hb4' : Boxed w4 w.heap.size 31 (.slice Ao ((pre.map Yd.p).map Prod.fst).length co) := hb.kept hg4 (fun e => hne e.symm)
    have p0 := hb4'.cell
    have pf_ := hb4'.frozen
    have pl := hb4'.lt
    have hB4 : Below w.heap.size w w4 := hB.grown hg4 hB.size (fun j e => by have := (hR.1.lt j e).1; omega)
    have hS4 : ButS (fun j => j = w.heap.size ∨ WL.heap.size ≤ j) W w4 := (ButS.refl _ W).grown hg4 (fun j e => .inl (.inr (hR.1.lt j e).1))
    have hkf : KeepsFrom WL.heap.size W w4 := ⟨hg4.size, fun q ob _ hq hoc => (hg4.block q (Array.getElem?_eq_some_iff.1 hq).1 (fun e => by obtain ⟨cur, hcur⟩ := ownsRow_block hR.1 e.symm; rw [hcur] at hq; injection hq with hq; rw [← hq] at hoc; cases hoc)).trans hq⟩
    obtain ⟨no, hno⟩ : ∃ n, ((pre.map Yd.p).map Prod.fst).length = n := ⟨_, rfl⟩
    rw [hno] at hrun o0 p0 hb hb4'
    obtain ⟨n4, hn4⟩ : ∃ n, ((pre.map Yd.p ++ [((k, d), Value.slice A d.length c)]).map Prod.fst).length = n := ⟨_, rfl⟩
    rw [hn4] at hrun hR4
    have hps : pre.map Yd.p ++ [((k, d), Value.slice A d.length c)] = (pre ++ [(⟨i, k, .slice A d.length c, d⟩ : Yd)]).map Yd.p := by rw [List.map_append]; rfl
    rw [hps] at hR4
    have RUN := Lib.hid hrun; have HR4 := Lib.hid hR4; have HB4 := Lib.hid hB4; have HS4 := Lib.hid hS4; have HKF := Lib.hid hkf; have HBX := Lib.hid hb4'; clear hrun hR4 hB4 hS4 hkf hb4' hR hO hg4 hb4 hps hn4 hno hb hcell hB hP
    gi_wp2_with (gi_at_builtin; refine wpListIn_append_run rfl (.tmp 10) (.tmp 12) 31 rfl _ _ rfl rfl RUN.out ?_)
    have hX := HBX.out.set (.slice A4 n4 c4)
    have hw := iL.size
    refine ⟨HKF.out.trans ((KeepsOthers.setCell _ _ _).from _), HS4.out.set (p := ⟨w.heap.size, 0, none⟩) (.inl (.inl rfl)) _, ⟨_, hX, ?_⟩, HB4.out.setCell (p := ⟨w.heap.size, 0, none⟩) (Nat.le_refl _) _, ?_⟩
    · exact HR4.out.keep (fun j hj => Below.heap_setCell w4 ⟨w.heap.size, 0, none⟩ _ j (by have := (HR4.out.1.lt j hj).1; show j ≠ w.heap.size; omega)) (fun p hp j hj => Below.heap_setCell w4 ⟨w.heap.size, 0, none⟩ _ j (by have := ((HR4.out.2 p hp).1.lt j hj).1; show j ≠ w.heap.size; omega))
    · exact Nat.le_trans hnw (Nat.le_trans HKF.out.size (by simp [World.setCell]))
  case done =>
    rintro D xs W hD hS ⟨⟨vo, hb, hR⟩, hB, hnw⟩ hK
    have o0 := hb.cell
    have ol := hb.lt
    have hR9 := hR.away (grownBy_putObj' W D (.deferred none)) (fun r e => by cases e; exact ⟨_, hK, rfl⟩)
    have hB9 := hB.trans (belowK_b (w := w) (Nat.le_refl _) W D _ (.deferred none) (Nat.le_trans iL.size hD) hK rfl rfl)
    have hmap : (xs.map Yd.p).map Prod.fst = rs.map Rec.i := by have := hS.1; rw [List.drop_zero] at this; rw [← this, List.map_map]; rfl
    have HR9 := Lib.hid hR9; have HB9 := Lib.hid hB9; have HMAP := Lib.hid hmap; clear hR hR9 hB hB9 hmap hP
    gi_wp2
    refine ⟨by simp, .inl ⟨_, _, rfl, run_takeDeferred hK, ?_⟩⟩
    exact ⟨_, results_tmp rfl _ _ _, vo, rfl, ⟨_, HMAP.out, owns_lessN HR9.out.1 iL.size, fun p hp => ⟨(HR9.out.2 p hp).1.less iL.size, (HR9.out.2 p hp).2⟩⟩, HB9.out⟩
end Go.Proofs.YtpmjlaiafgbjgaaDoor
end
section
namespace Go.Proofs.YtpmjlaiafgbjgaaDoor
open Go.RowKit
section
variable {P : Program} {ops : Array Oper} {l n : Nat}
theorem letsOut_onlyN (Q : Exit → Act → World → Prop) : ¬ LetsOut (OnlyN Q) := fun ⟨_, _, h⟩ => h
theorem rows_in {row : String} {args : Array Value} {w : World} {m : Nat} {R : Value → World → Prop} (h : Rows P row args w R) : RowsIn (Fence.wide.inRound l) m P row args w R := fun c cs _ => by
  obtain ⟨v, w', r, s⟩ := h c cs
  exact ⟨v, w', r, stepsIn_wide.2 s⟩
theorem oper_in {o : Oper} (hd : ∀ c, o.op ≠ .defer c) {a : Act} {w : World} {K : Act → World → Prop} {Q : Exit → Act → World → Prop} (h : o.wp P a w K Q) : o.wpIn (Fence.wide.inRound l) n P a w K Q := by
  unfold Oper.wpIn
  unfold Oper.wp at h
  refine ⟨fun _ _ => trivial, ?_⟩
  rw [Oper.semAt_eq _ _ _ hd]
  generalize (execOp a.eval o).run P w = r at *
  cases r with
  | ok x w' =>
    cases x <;> simp only [Oper.upon, Oper.uponIn] at h ⊢ <;> first | exact h | exact ⟨fun e => (by cases e), (callsIn_wide.2 h).inRound l⟩ | exact ⟨fun e => (by cases e), rows_in h⟩
  | halt x w' => cases x <;> simp only [Oper.upon, Oper.uponIn] at h ⊢ <;> exact h
def noDefer (ops : Array Oper) : Bool := ops.toList.all fun o => match o.op with | .defer _ => false | _ => true
theorem noDefer_spec (h : noDefer ops = true) {i : Nat} {o : Oper} (ho : ops[i]? = some o) : ∀ c, o.op ≠ .defer c := by
  intro c hc
  have hm := List.all_eq_true.1 h o (by rw [Array.getElem?_eq_some_iff] at ho; obtain ⟨hi, rfl⟩ := ho; exact Array.getElem_mem_toList hi)
  rw [hc] at hm
  cases hm
theorem wpOp_in (hd : noDefer ops = true) {Q : Exit → Act → World → Prop} {i : Nat} {K K' : Act → World → Prop} {a : Act} {w : World} (hK : ∀ a w, K a w → K' a w) (h : wpOp P ops (OnlyN Q) i K a w) : wpOpIn (Fence.wide.inRound l) n P ops (OnlyN Q) i K' a w := by
  unfold wpOp at h
  unfold wpOpIn
  cases ho : ops[i]? with
  | none => rw [ho] at h; exact hK _ _ h
  | some o =>
    rw [ho] at h
    simp only at h ⊢
    split
    · rename_i hw
      rw [if_pos hw] at h
      rcases h with h | ⟨_, h⟩
      · exact Oper.wpIn_mono hK (oper_in (noDefer_spec hd ho) h)
      · exact absurd h (letsOut_onlyN Q)
    · rename_i hw
      rw [if_neg hw] at h
      exact ⟨fun _ _ => trivial, hK _ _ h⟩
theorem wpAny_in (hd : noDefer ops = true) {Q : Exit → Act → World → Prop} {md : Region.Mode} : ∀ (fuel : Nat) (listed : Array Bool) (a : Act) (w : World), wpAny P md ops (OnlyN Q) fuel listed a w → wpAnyIn (Fence.wide.inRound l) n P md ops (OnlyN Q) fuel listed a w
  | 0, _, _, _, h => h
  | fuel + 1, listed, a, w, h => ⟨h.1, fun i hi => wpOp_in hd (fun a w => wpAny_in hd fuel _ a w) (h.2 i hi)⟩
theorem wpIn_region_sch {Q : Exit → Act → World → Prop} {id : Nat} {a : Act} {w : World} (S : World → Prop) (p : Nat) (t : Sch) (hd : noDefer ops = true) (hm : P.follows .mixedOrders = true) (hB : t.okAll ops p = true) (hS : S w.drew)
    (h : S w.drew → wpSch P ops (OnlyN Q) S p t a w.drew) : (Code.region id ops true).wpIn (Fence.wide.inRound l) n P Q a w := by
  simp only [Sch.okAll, Bool.and_eq_true, decide_eq_true_eq] at hB
  obtain ⟨⟨⟨⟨⟨hsel, hn⟩, hs⟩, hc⟩, hlen⟩, hsc⟩ := hB
  have inv0 : HeadInv .any ops p (Array.replicate ops.size false) :=
    ⟨by simp, fun j oj _ hl => (by rw [getD_replicate_false] at hl; cases hl), fun t _ ht => Go.getD_in (by simpa using ht) (getD_replicate_false _ _)⟩
  exact wpIn_mono (wpIn_region_any hm (wpAny_in hd _ _ _ _ (wpAny_of_G _ _ _ _ (wpAnyG_sch (md := .any) (S := S) hsel (Q := OnlyN Q) (fun c a d v w h => h) hs hc hn t _ _ a w.drew hlen (.inl inv0) hsc (h hS))))) OnlyN.imp
end
end Go.Proofs.YtpmjlaiafgbjgaaDoor
end
section
namespace Go.Proofs.YtpmjlaiafgbjgaaDoor
open Go.RowKit
attribute [local go_sem] Oper.semAt_some
theorem wpIn_region_schG {P : Program} {ops : Array Oper} {l n : Nat} {Q : Exit → Act → World → Prop} {id : Nat} {a : Act} {w : World} (F : World → Prop) (p : Nat) (t : Sch) (hm : P.follows .mixedOrders = true) (hB : (t.okAll ops p && noDefer ops) = true) (hF : F w)
    (h : ∀ w0, F w0 → wpSch P ops (OnlyN Q) (Within w0) p t a w0.drew) : (Code.region id ops true).wpIn (Fence.wide.inRound l) n P Q a w := by
  rw [Bool.and_eq_true] at hB
  exact wpIn_region_sch (Within w) p t hB.2 hm hB.1 ((Within.refl w).drew) fun _ => h w hF
theorem wpIn_region_schT {P : Program} {ops : Array Oper} {l n : Nat} {Q : Exit → Act → World → Prop} {id : Nat} {a : Act} {w : World} (T : Nat → Prop) (F : World → Prop) (p : Nat) (t : Sch) (hd : noDefer ops = true) (hm : P.follows .mixedOrders = true) (hB : t.okAll ops p = true) (hF : F w)
    (h : ∀ w0, F w0 → wpSch P ops (OnlyN Q) (ButS T w0) p t a w0.drew) : (Code.region id ops true).wpIn (Fence.wide.inRound l) n P Q a w := wpIn_region_sch (ButS T w) p t hd hm hB ((ButS.refl T w).drew) fun _ => h w hF
def i64v (l : List Nat) : List Value := l.map fun (x : Nat) => Value.int .i64 (x : Int)
theorem i64v_len (l : List Nat) : (i64v l).length = l.length := List.length_map _
theorem i64v_one (l : List Nat) : ∀ u ∈ i64v l, u.oneCell' = true := by
  intro u hu; unfold i64v at hu; obtain ⟨x, _, rfl⟩ := List.mem_map.1 hu; rfl
theorem Tryd.infoI64 : (Tryd.prog.info? 3).map (fun i => (i.zero, i.size, i.bytes)) = some (some (.int .i64 0), 1, 8) := by kernel_rfl
def OwnI (w : World) (base : Nat) (v : Value) (l : List Nat) : Prop := w.ownsRow base 3 1 v l.length (i64v l)
theorem run_app_int (w : World) (base : Nat) (v : Value) (l : List Nat) (x : Nat) (hown : OwnI w base v l) (hl : (l.length + 1) * 8 ≤ 140737488355328) (hbase : base ≤ w.heap.size) :
    ∃ v' w', (Builtin.append_ #[43, 43] 43 #[v, .slice (some ⟨w.heap.size, 0, none⟩) 1 1]).run Tryd.prog (w.alloc (.cells #[.int .i64 (x : Int)] 3)) = .ok v' w' ∧ OwnI w' base v' (l ++ [x]) ∧ w.grownBy w' v.ownBlock ∧ (v'.ownBlock = v.ownBlock ∨ v'.ownBlock = some (w.heap.size + 1)) := by
  obtain ⟨i0, hi0, hz0, hz1, hz2⟩ := info_parts Tryd.infoI64
  have hin : Within w (w.alloc (.cells #[.int .i64 (x : Int)] 3)) := (Within.refl w).alloc _
  have hown' : (w.alloc (.cells #[.int .i64 (x : Int)] 3)).ownsRow base 3 1 v l.length (i64v l) := ownsRow_keep hown (fun j hj => hin.block j (hown.lt j hj).2)
  obtain ⟨v', w', h1, h2, h3, h5⟩ := run_app (P := Tryd.prog) (w.alloc (.cells #[.int .i64 (x : Int)] 3)) base 43 43 3 i0 (.int .i64 0) 8 (by kernel_rfl) hi0 hz0 hz1 hz2 rfl v l.length (i64v l) hown' (some ⟨w.heap.size, 0, none⟩) 1 (i64v [x]) (SlAt.one w _ _) (i64v_one [x]) (by rw [i64v_len]; unfold maxLen; simp; omega) (by rw [i64v_len]; simp; omega) (Nat.le_trans hbase hin.size)
  refine ⟨v', w', h1, ?_, ?_, by simpa using h5⟩
  · unfold OwnI i64v
    rw [List.length_append, List.map_append]; exact h2
  · exact ⟨h3.os, h3.tape, h3.output, Nat.le_trans hin.size h3.size, fun k hk hn => (h3.block k (Nat.lt_of_lt_of_le hk hin.size) hn).trans (hin.block k hk)⟩
def endsN (ds : List Nat) : List Nat := ds.foldl (fun acc d => acc ++ [acc.getLastD 0 + 13 + d + 4]) [8]
theorem endsN_snoc (ds : List Nat) (d : Nat) : endsN (ds ++ [d]) = endsN ds ++ [(endsN ds).getLastD 0 + 13 + d + 4] := by unfold endsN; rw [List.foldl_append]; rfl
theorem endsN_len : ∀ (n : Nat) (ds : List Nat), ds.length ≤ n → (endsN ds).length = ds.length + 1
  | 0, ds, h => by obtain rfl := List.eq_nil_of_length_eq_zero (Nat.le_zero.1 h); rfl
  | n + 1, ds, h => by
    rcases List.eq_nil_or_concat ds with rfl | ⟨m, d, rfl⟩
    · rfl
    · rw [List.concat_eq_append] at h ⊢
      rw [List.length_append] at h
      rw [endsN_snoc, List.length_append, List.length_append, endsN_len n m (by simp at h; omega)]; rfl
theorem endsN_last : ∀ (n : Nat) (ds : List Nat), ds.length ≤ n → (∀ d ∈ ds, d ≤ 1048576) → (endsN ds).getLastD 0 ≤ 8 + ds.length * 1048593
  | 0, ds, h, _ => by obtain rfl := List.eq_nil_of_length_eq_zero (Nat.le_zero.1 h); decide
  | n + 1, ds, h, hd => by
    rcases List.eq_nil_or_concat ds with rfl | ⟨m, d, rfl⟩
    · decide
    · rw [List.concat_eq_append] at h hd ⊢
      rw [List.length_append] at h ⊢
      have h1 := endsN_last n m (by simp at h; omega) (fun d hd' => hd d (by simp [hd']))
      have h2 := hd d (by simp)
      rw [endsN_snoc, List.getLastD_concat, show [d].length = 1 from rfl]
      omega
theorem i64v_last {e : List Nat} {m la : Nat} (hme : e.length = m + 1) (hla : e.getLastD 0 = la) : (i64v e)[m]? = some (.int .i64 (la : Int)) := by
  rcases List.eq_nil_or_concat e with rfl | ⟨q, x, rfl⟩
  · cases hme
  · rw [List.concat_eq_append] at hme hla ⊢
    rw [List.getLastD_concat] at hla
    rw [List.length_append] at hme
    have hm : m = q.length := by simp at hme; omega
    subst hla
    unfold i64v
    rw [List.getElem?_map, hm, List.getElem?_append_right (Nat.le_refl _), Nat.sub_self]; rfl
def EndI (n₁ : Nat) (w : World) (pre : List Yd) (W : World) : Prop := (∃ v, Boxed W (w.heap.size + 1) 43 v ∧ OwnI W w.heap.size v (endsN (pre.map fun x => x.d.length)) ∧ ∀ j, v.ownBlock = some j → j = w.heap.size ∨ n₁ ≤ j) ∧ Below w.heap.size w W ∧ n₁ ≤ W.heap.size ∧ ∀ y ∈ pre, y.d.length ≤ 1048576
theorem EndI.own (n₁ : Nat) (w : World) {B : Nat} (hB : w.heap.size ≤ B) : OwnFrom B (EndI n₁ w) := by
  rintro s A C row ⟨⟨v, h1, h2, h5⟩, h3, h4, h6⟩ hg hr
  have hr' : ∀ r, row = some r → ∃ o : Obj, A.heap[r]? = some o ∧ o.isCells = false := fun r e => (hr r e).2
  refine ⟨⟨v, h1.kept hg (fun e => ?_), ownsRow_away h2 hg hr', h5⟩, h3.grown hg h3.size (fun k e => Nat.le_trans hB (hr k e).1), Nat.le_trans h4 hg.size, h6⟩
  obtain ⟨o, ho, hc⟩ := hr' _ e.symm
  rw [show A.heap[w.heap.size + 1]? = _ from h1] at ho
  injection ho with ho
  rw [← ho] at hc
  cases hc
def EndX (w : World) (a : Nat → Value → Value → Act) (x : Yd) (a' : Act) (W : World) : Prop := ∃ Bx A c, w.heap.size + 1 < Bx ∧ W.heap[Bx]? = some (.cells #[.int .i64 x.k, .slice A x.d.length c] 50 (0, 0)) ∧ x.d.length ≤ 1048576 ∧ a' = a Bx (.int .i64 (x.i : Int)) (.agg #[.int .i64 x.k, .slice A x.d.length c])
theorem EndX.own (w : World) (a : Nat → Value → Value → Act) (x : Yd) (a' : Act) (B : Nat) : OwnFrom B (fun (_ : Unit) W => EndX w a x a' W) := by
  rintro s A C row ⟨Bx, A1, c1, h1, h2, h3, h5⟩ hg hr
  refine ⟨Bx, A1, c1, h1, (hg.block Bx (Array.getElem?_eq_some_iff.1 h2).1 (fun e => ?_)).trans h2, h3, h5⟩
  obtain ⟨o, ho, hc⟩ := (hr _ e.symm).2
  rw [h2] at ho
  injection ho with ho
  rw [← ho] at hc
  cases hc
set_option maxRecDepth 100000 in
set_option maxHeartbeats 1000000 in
theorem ends_log (S0 : Nat → Prop) (xb : Nat) (rs : List Rec) (hrd : ∀ r ∈ rs, r.data.length ≤ 1048576 ∧ Bytes r.data) (hrs : rs.length ≤ 1048576) (w : World) (hP : LogS w S0 xb rs) (hS : ∀ j, S0 j → j < w.heap.size) : Calls Tryd.prog 22 #[.pointer (some ⟨xb, 0, none⟩)] w fun e w' => ∃ v, e = .returned v ∧ OwnI w' w.heap.size v (endsN (rs.map fun r => r.data.length)) ∧ Within w w' := by
  refine (callsIn_wide (n := 3)).1 ?_
  refine callsIn_of_wp_marks Tryd.func22 rfl trivial ?_ rfl
  simp only [Tryd.ntmps22, List.size_toArray, List.length_cons, List.length_nil, Nat.reduceAdd, Nat.reduceSub, Array.replicate_succ, Array.replicate_zero, List.push_toArray, List.append_toArray, List.nil_append, List.cons_append]
  gi_wp2_with (refine ⟨trivial, ?_⟩; gi_at_call 37; refine (callsIn_wide.2 (Each_any _ _ _)).mono ?_; rintro e1 w1 ⟨rfl, rfl⟩)
  obtain ⟨V0, hV0⟩ : ∃ W, W = w.alloc (.cells #[.int .i64 8] 3) := ⟨_, rfl⟩
  have v0s : V0.heap.size = w.heap.size + 1 := by rw [hV0]; simp
  have i0 : Within w V0 := by rw [hV0]; exact (Within.refl w).alloc _
  obtain ⟨V1, hV1⟩ : ∃ W, W = V0.alloc (.cells #[.slice (some ⟨w.heap.size, 0, none⟩) 1 1] 43) := ⟨_, rfl⟩
  have v1s : V1.heap.size = w.heap.size + 1 + 1 := by rw [hV1]; simp [v0s]
  have i1 : Within V0 V1 := by rw [hV1]; exact (Within.refl _).alloc _
  obtain ⟨V2, hV2⟩ : ∃ W, W = V1.alloc (.cells #[.pointer (some ⟨xb, 0, none⟩)] 24) := ⟨_, rfl⟩
  have v2s : V2.heap.size = w.heap.size + 1 + 1 + 1 := by rw [hV2]; simp [v1s]
  have i2 : Within V1 V2 := by rw [hV2]; exact (Within.refl _).alloc _
  obtain ⟨WL, hWL⟩ : ∃ W, W = V2.alloc (.cells #[.int .i64 0] 3) := ⟨_, rfl⟩
  have hLs : WL.heap.size = w.heap.size + 1 + 1 + 1 + 1 := by rw [hWL]; simp [v2s]
  have i3 : Within V2 WL := by rw [hWL]; exact (Within.refl _).alloc _
  have iL : Within w WL := i0.trans (i1.trans (i2.trans i3))
  have cx : WL.cell? ⟨w.heap.size + 1 + 1, 0, none⟩ = some (.pointer (some ⟨xb, 0, none⟩)) := (i3.cells _ _ (by omega)).trans (by rw [hV2, ← v1s]; simp)
  have cf : WL.cell? ⟨w.heap.size + 1 + 1 + 1, 0, none⟩ = some (.int .i64 ((0 : Nat) : Int)) := by rw [hWL, ← v2s]; simp
  have bO : Boxed WL (w.heap.size + 1) 43 (.slice (some ⟨w.heap.size, 0, none⟩) 1 1) := ((i2.trans i3).block _ (by omega)).trans (by rw [hV1, ← v0s]; exact World.alloc_heap_new V0 _)
  have r0 : OwnI V0 w.heap.size (.slice (some ⟨w.heap.size, 0, none⟩) 1 1) [8] := by rw [hV0]; exact World.ownsRow_lit (base := w.heap.size) (e := 3) (size := 1) w #[.int .i64 8] 1 (Nat.le_refl _) (by decide) rfl
  have rO : OwnI WL w.heap.size (.slice (some ⟨w.heap.size, 0, none⟩) 1 1) [8] := ownsRow_keep r0 (fun j hj => (i1.trans (i2.trans i3)).block j (r0.lt j hj).2)
  have hz : ∀ j, S0 j → ¬ (j = w.heap.size ∨ j = w.heap.size + 1 ∨ WL.heap.size ≤ j) := fun j hj h => by have := hS j hj; omega
  have hzx : ¬ (w.heap.size + 1 + 1 = w.heap.size ∨ w.heap.size + 1 + 1 = w.heap.size + 1 ∨ WL.heap.size ≤ w.heap.size + 1 + 1) := by omega
  have hzf : ¬ (w.heap.size + 1 + 1 + 1 = w.heap.size ∨ w.heap.size + 1 + 1 + 1 = w.heap.size + 1 ∨ WL.heap.size ≤ w.heap.size + 1 + 1 + 1) := by omega
  have hwl : w.heap.size + 1 < WL.heap.size := by omega
  rw [← hV0, ← hV1, ← hV2, ← hWL]
  clear hV0 hV1 hV2 hWL v0s v1s v2s hLs i0 i1 i2 i3 r0
  refine range_T rfl (by decide) (gf := 60) (lb := #[.pointer (some ⟨w.heap.size + 1 + 1, 0, none⟩), .pointer (some ⟨w.heap.size + 1 + 1 + 1, 0, none⟩)]) rfl trivial (enters_of Tryd.func60 (by kernel_rfl) rfl)
    (Each1_seq (fun j => j = w.heap.size ∨ j = w.heap.size + 1 ∨ WL.heap.size ≤ j) S0 WL.heap.size xb (w.heap.size + 1 + 1) (w.heap.size + 1 + 1 + 1) 0 rs hrd (Nat.zero_le _) hrs WL (Nat.le_refl _) (hP.of iL) cx cf hz hzx hzf)
    (fun h k => h.trans k fun _ _ h => h) (fun W l o o' hl h _ => (ButS.refl _ W).grown (grownBy_putObj' W l o') (fun j e => by cases e; exact .inl (.inr (.inr hl)))) (fun _ => rfl)
    (EndI WL.heap.size w) (EndI.own _ w iL.size) ⟨⟨_, bO, rO, fun j hj => .inl (by injection hj with hj; exact hj.symm)⟩, iL, Nat.le_refl _, fun y hy => (by cases hy)⟩ (EndX w (fun Bx iv rv => { tmps := #[.pointer (some ⟨xb, 0, none⟩), undef, .slice none 0 0, .pointer (some ⟨w.heap.size + 1, 0, none⟩), undef, .pointer (some ⟨Bx, 0, none⟩), .slice (some ⟨w.heap.size, 0, none⟩) 1 1, .pointer (some ⟨xb, 0, none⟩), .func (.func 60) #[] #[.pointer (some ⟨w.heap.size + 1 + 1, 0, none⟩), .pointer (some ⟨w.heap.size + 1 + 1 + 1, 0, none⟩)], iv, rv, undef, undef, undef, undef, undef, undef, undef, undef, undef, undef, undef, undef, undef, undef, undef, undef], defers := [] })) (fun x a' => EndX.own _ _ x a' _) ?assign ?body ?done
  case assign =>
    rintro l pre ⟨i, k, v, d⟩ W K hI ⟨hO, hby, hdl⟩ hK
    have hO : OwnB W WL.heap.size v d := hO
    have hdl : d.length ≤ 1048576 := hdl
    obtain ⟨A, c, rfl, _, _, _⟩ := hO.form
    dsimp only [Yd.enc]
    gi_wp2
    exact hK _ _ ((KeepsOthers.alloc _ _).from _) ((ButS.refl _ W).alloc _) ((EndI.own _ w iL.size).alloc _ hI) ⟨W.heap.size, A, c, by obtain ⟨⟨_, h, _⟩, _⟩ := hI; exact h.lt, World.alloc_heap_new W _, hdl, rfl⟩
  case body =>
    rintro l pre ⟨i, k, v, d⟩ a' WB ⟨⟨vo, hb, hR, hbl⟩, hB, hnw, hpd⟩ ⟨Bx, A, c, hBx, hcell, hdl, rfl⟩ hlen
    obtain ⟨e, m, hem, hme⟩ : ∃ (e : List Nat) (m : Nat), endsN (pre.map fun x => x.d.length) = e ∧ e.length = m + 1 := ⟨_, pre.length, rfl, by rw [endsN_len _ _ (Nat.le_refl _), List.length_map]⟩
    have hml : m = pre.length := by have := endsN_len _ (pre.map fun x => x.d.length) (Nat.le_refl _); rw [hem, hme, List.length_map] at this; omega
    have hbnd := endsN_last _ (pre.map fun x => x.d.length) (Nat.le_refl _) (fun d hd => by obtain ⟨y, hy, rfl⟩ := List.mem_map.1 hd; exact hpd y hy)
    rw [hem, List.length_map] at hbnd
    have hsn := endsN_snoc (pre.map fun x => x.d.length) d.length
    rw [hem] at hsn hR
    obtain ⟨la, hla⟩ : ∃ x, e.getLastD 0 = x := ⟨_, rfl⟩
    rw [hla] at hbnd hsn
    have hlast := i64v_last hme hla
    obtain ⟨A0, co, rfl, hco, hs0, _⟩ := owns_form hR
    obtain ⟨ad, rfl, hab, hac⟩ := hs0 (by rw [i64v_len]; omega)
    have hx := hac m _ hlast
    have hcell : WB.heap[Bx]? = some (.cells #[.int .i64 k, .slice A d.length c] 50 (0, 0)) := hcell
    have c1 : WB.cell? ⟨Bx, 1, none⟩ = some (.slice A d.length c) := by simp [World.cell?, hcell]
    have cl : Bx < WB.heap.size := (Array.getElem?_eq_some_iff.1 hcell).1
    have o0 := hb.cell
    have ol := hb.lt
    have hdl : d.length ≤ 1048576 := hdl
    rw [hme] at o0 hco hb hbl
    have hR' : OwnI WB w.heap.size (.slice (some ad) (m + 1) co) e := by rw [← hme]; exact hR
    have hps : (pre ++ [(⟨i, k, v, d⟩ : Yd)]).map (fun x => x.d.length) = (pre.map fun x => x.d.length) ++ [d.length] := by rw [List.map_append]; rfl
    rw [← hps] at hsn
    obtain ⟨nd, hnd⟩ : ∃ n, d.length = n := ⟨_, rfl⟩
    rw [hnd] at c1 hdl hsn
    have e1 : IntKind.i64.wrap ((la : Int) + 13) = (la : Int) + 13 := by rw [IntKind.wrap_i64]; omega
    have e2 : IntKind.i64.wrap ((la : Int) + 13 + (nd : Int)) = (la : Int) + 13 + (nd : Int) := by rw [IntKind.wrap_i64]; omega
    have e3 : IntKind.i64.wrap ((la : Int) + 13 + (nd : Int) + 4) = (la : Int) + 13 + (nd : Int) + 4 := by rw [IntKind.wrap_i64]; omega
    have e4 : IntKind.i64.wrap (m : Int) = (m : Int) := by rw [IntKind.wrap_i64]; omega
    have v2 : (m : Int) + 1 - 1 = (m : Int) := by omega
    have v3 : (m : Int) < (m : Int) + 1 := by omega
    have v5 : (0 : Int) ≤ (m : Int) := by omega
    have v6 : m < m + 1 := by omega
    have hnb : ¬ ((Value.slice (some ad) (m + 1) co).ownBlock = some (w.heap.size + 1)) := fun e' => by rcases hbl _ e' with h | h; omega; omega
    have HR := Lib.hid hR'; have HB := Lib.hid hb; have HBL := Lib.hid hbl; have HBW := Lib.hid hB; have HPD := Lib.hid hpd; have HSN := Lib.hid hsn; have HND := Lib.hid hnd; have HNB := Lib.hid hnb; have HME := Lib.hid hme; have HML := Lib.hid hml; clear hR hR' hb hbl hB hpd hsn hnd hnb hme hml hps hcell hac hs0 hlast hem hla hP
    gi_wp2
    refine wpIn_region_schG (fun W => W.cell? ⟨w.heap.size + 1, 0, none⟩ = some (.slice (some ad) (m + 1) co) ∧ w.heap.size + 1 < W.heap.size ∧ W.cell? (ad.add m) = some (.int .i64 (la : Int)) ∧ ad.block < W.heap.size ∧ W.cell? ⟨Bx, 1, none⟩ = some (.slice A nd c) ∧ Bx < W.heap.size ∧ W = WB) 14 (.firm 0 (.firm 1 (.firm 2 (.firm 3 (.firm 4 (.firm 5 (.firm 6 (.firm 7 (.firm 8 (.firm 9 (.firm 10 (.firm 11 (.firm 12 (.one 13 (.one 14 (.one 15 .nil)))))))))))))))) (by kernel_rfl) (by kernel_rfl) ⟨o0, ol, hx, hab, c1, cl, rfl⟩ ?_
    rintro w0 ⟨o0, ol, hx, hab, c1, cl, rfl⟩
    try simp only [Act.put, List.setIfInBounds_toArray, List.set_cons_zero, List.set_cons_succ]
    apply sch_firm rfl rfl (by repeat (first | with_reducible exact Within.refl _ | with_reducible assumption | with_reducible refine Within.alloc ?_ _ | with_reducible refine Within.drew ?_ | with_reducible refine Within.drewN ?_ _ | with_reducible refine Within.setCell ?_ (by first | (simp; done) | (simp; omega)) _ | with_reducible refine Within.trans ?_ (by assumption)))
    · intro wq hq
      have hcq := hq.cells
      have gx := (hq.cell (p := ad.add m) (by rw [add_block]; exact hab)).trans hx
      clear hq
      go_simp
      first | rfl | (trace_state; fail)
    try simp only [Act.put, List.setIfInBounds_toArray, List.set_cons_zero, List.set_cons_succ]
    apply sch_firm rfl rfl (by repeat (first | with_reducible exact Within.refl _ | with_reducible assumption | with_reducible refine Within.alloc ?_ _ | with_reducible refine Within.drew ?_ | with_reducible refine Within.drewN ?_ _ | with_reducible refine Within.setCell ?_ (by first | (simp; done) | (simp; omega)) _ | with_reducible refine Within.trans ?_ (by assumption)))
    · intro wq hq
      have hcq := hq.cells
      have gx := (hq.cell (p := ad.add m) (by rw [add_block]; exact hab)).trans hx
      clear hq
      go_simp
      first | rfl | (trace_state; fail)
    try simp only [Act.put, List.setIfInBounds_toArray, List.set_cons_zero, List.set_cons_succ]
    apply sch_firm rfl rfl (by repeat (first | with_reducible exact Within.refl _ | with_reducible assumption | with_reducible refine Within.alloc ?_ _ | with_reducible refine Within.drew ?_ | with_reducible refine Within.drewN ?_ _ | with_reducible refine Within.setCell ?_ (by first | (simp; done) | (simp; omega)) _ | with_reducible refine Within.trans ?_ (by assumption)))
    · intro wq hq
      have hcq := hq.cells
      have gx := (hq.cell (p := ad.add m) (by rw [add_block]; exact hab)).trans hx
      clear hq
      go_simp
      first | rfl | (trace_state; fail)
    try simp only [Act.put, List.setIfInBounds_toArray, List.set_cons_zero, List.set_cons_succ]
    apply sch_firm rfl rfl (by repeat (first | with_reducible exact Within.refl _ | with_reducible assumption | with_reducible refine Within.alloc ?_ _ | with_reducible refine Within.drew ?_ | with_reducible refine Within.drewN ?_ _ | with_reducible refine Within.setCell ?_ (by first | (simp; done) | (simp; omega)) _ | with_reducible refine Within.trans ?_ (by assumption)))
    · intro wq hq
      have hcq := hq.cells
      have gx := (hq.cell (p := ad.add m) (by rw [add_block]; exact hab)).trans hx
      clear hq
      go_simp
      first | rfl | (trace_state; fail)
    try simp only [Act.put, List.setIfInBounds_toArray, List.set_cons_zero, List.set_cons_succ]
    apply sch_firm rfl rfl (by repeat (first | with_reducible exact Within.refl _ | with_reducible assumption | with_reducible refine Within.alloc ?_ _ | with_reducible refine Within.drew ?_ | with_reducible refine Within.drewN ?_ _ | with_reducible refine Within.setCell ?_ (by first | (simp; done) | (simp; omega)) _ | with_reducible refine Within.trans ?_ (by assumption)))
    · intro wq hq
      have hcq := hq.cells
      have gx := (hq.cell (p := ad.add m) (by rw [add_block]; exact hab)).trans hx
      clear hq
      go_simp
      first | rfl | (trace_state; fail)
    try simp only [Act.put, List.setIfInBounds_toArray, List.set_cons_zero, List.set_cons_succ]
    apply sch_firm rfl rfl (by repeat (first | with_reducible exact Within.refl _ | with_reducible assumption | with_reducible refine Within.alloc ?_ _ | with_reducible refine Within.drew ?_ | with_reducible refine Within.drewN ?_ _ | with_reducible refine Within.setCell ?_ (by first | (simp; done) | (simp; omega)) _ | with_reducible refine Within.trans ?_ (by assumption)))
    · intro wq hq
      have hcq := hq.cells
      have gx := (hq.cell (p := ad.add m) (by rw [add_block]; exact hab)).trans hx
      clear hq
      go_simp
      first | rfl | (trace_state; fail)
    try simp only [Act.put, List.setIfInBounds_toArray, List.set_cons_zero, List.set_cons_succ]
    apply sch_firm rfl rfl (by repeat (first | with_reducible exact Within.refl _ | with_reducible assumption | with_reducible refine Within.alloc ?_ _ | with_reducible refine Within.drew ?_ | with_reducible refine Within.drewN ?_ _ | with_reducible refine Within.setCell ?_ (by first | (simp; done) | (simp; omega)) _ | with_reducible refine Within.trans ?_ (by assumption)))
    · intro wq hq
      have hcq := hq.cells
      have gx := (hq.cell (p := ad.add m) (by rw [add_block]; exact hab)).trans hx
      clear hq
      go_simp
      first | rfl | (trace_state; fail)
    try simp only [Act.put, List.setIfInBounds_toArray, List.set_cons_zero, List.set_cons_succ]
    apply sch_firm rfl rfl (by repeat (first | with_reducible exact Within.refl _ | with_reducible assumption | with_reducible refine Within.alloc ?_ _ | with_reducible refine Within.drew ?_ | with_reducible refine Within.drewN ?_ _ | with_reducible refine Within.setCell ?_ (by first | (simp; done) | (simp; omega)) _ | with_reducible refine Within.trans ?_ (by assumption)))
    · intro wq hq
      have hcq := hq.cells
      have gx := (hq.cell (p := ad.add m) (by rw [add_block]; exact hab)).trans hx
      clear hq
      go_simp
      first | rfl | (trace_state; fail)
    try simp only [Act.put, List.setIfInBounds_toArray, List.set_cons_zero, List.set_cons_succ]
    apply sch_firm rfl rfl (by repeat (first | with_reducible exact Within.refl _ | with_reducible assumption | with_reducible refine Within.alloc ?_ _ | with_reducible refine Within.drew ?_ | with_reducible refine Within.drewN ?_ _ | with_reducible refine Within.setCell ?_ (by first | (simp; done) | (simp; omega)) _ | with_reducible refine Within.trans ?_ (by assumption)))
    · intro wq hq
      have hcq := hq.cells
      have gx := (hq.cell (p := ad.add m) (by rw [add_block]; exact hab)).trans hx
      clear hq
      go_simp
      first | rfl | (trace_state; fail)
    try simp only [Act.put, List.setIfInBounds_toArray, List.set_cons_zero, List.set_cons_succ]
    apply sch_firm rfl rfl (by repeat (first | with_reducible exact Within.refl _ | with_reducible assumption | with_reducible refine Within.alloc ?_ _ | with_reducible refine Within.drew ?_ | with_reducible refine Within.drewN ?_ _ | with_reducible refine Within.setCell ?_ (by first | (simp; done) | (simp; omega)) _ | with_reducible refine Within.trans ?_ (by assumption)))
    · intro wq hq
      have hcq := hq.cells
      have gx := (hq.cell (p := ad.add m) (by rw [add_block]; exact hab)).trans hx
      clear hq
      go_simp
      first | rfl | (trace_state; fail)
    try simp only [Act.put, List.setIfInBounds_toArray, List.set_cons_zero, List.set_cons_succ]
    apply sch_firm rfl rfl (by repeat (first | with_reducible exact Within.refl _ | with_reducible assumption | with_reducible refine Within.alloc ?_ _ | with_reducible refine Within.drew ?_ | with_reducible refine Within.drewN ?_ _ | with_reducible refine Within.setCell ?_ (by first | (simp; done) | (simp; omega)) _ | with_reducible refine Within.trans ?_ (by assumption)))
    · intro wq hq
      have hcq := hq.cells
      have gx := (hq.cell (p := ad.add m) (by rw [add_block]; exact hab)).trans hx
      clear hq
      go_simp
      first | rfl | (trace_state; fail)
    try simp only [Act.put, List.setIfInBounds_toArray, List.set_cons_zero, List.set_cons_succ]
    apply sch_firm rfl rfl (by repeat (first | with_reducible exact Within.refl _ | with_reducible assumption | with_reducible refine Within.alloc ?_ _ | with_reducible refine Within.drew ?_ | with_reducible refine Within.drewN ?_ _ | with_reducible refine Within.setCell ?_ (by first | (simp; done) | (simp; omega)) _ | with_reducible refine Within.trans ?_ (by assumption)))
    · intro wq hq
      have hcq := hq.cells
      have gx := (hq.cell (p := ad.add m) (by rw [add_block]; exact hab)).trans hx
      clear hq
      go_simp
      first | rfl | (trace_state; fail)
    try simp only [Act.put, List.setIfInBounds_toArray, List.set_cons_zero, List.set_cons_succ]
    apply sch_firm rfl rfl (by repeat (first | with_reducible exact Within.refl _ | with_reducible assumption | with_reducible refine Within.alloc ?_ _ | with_reducible refine Within.drew ?_ | with_reducible refine Within.drewN ?_ _ | with_reducible refine Within.setCell ?_ (by first | (simp; done) | (simp; omega)) _ | with_reducible refine Within.trans ?_ (by assumption)))
    · intro wq hq
      have hcq := hq.cells
      have gx := (hq.cell (p := ad.add m) (by rw [add_block]; exact hab)).trans hx
      clear hq
      go_simp
      first | rfl | (trace_state; fail)
    try simp only [Act.put, List.setIfInBounds_toArray, List.set_cons_zero, List.set_cons_succ]
    refine sch_one rfl rfl (fun K hK => ?_)
    go_simp
    refine hK _ _ (fun _ => (by repeat (first | with_reducible exact Within.refl _ | with_reducible assumption | with_reducible refine Within.alloc ?_ _ | with_reducible refine Within.drew ?_ | with_reducible refine Within.drewN ?_ _ | with_reducible refine Within.setCell ?_ (by first | (simp; done) | (simp; omega)) _ | with_reducible refine Within.trans ?_ (by assumption)))) ?_
    clear hK K
    try simp only [Act.put, List.setIfInBounds_toArray, List.set_cons_zero, List.set_cons_succ]
    refine sch_one rfl rfl (fun K hK => ?_)
    obtain ⟨v4, w4, hrun, hR4, hg4, hb4⟩ := run_app_int w0.drew w.heap.size (.slice (some ad) (m + 1) co) e (la + 13 + nd + 4) (ownsRow_keep HR.out (fun j hj => rfl)) (by rw [HME.out]; have := HML.out; omega) HBW.out.size
    obtain ⟨A4, c4, rfl, _, _, _⟩ := owns_form hR4
    obtain ⟨n4, hn4⟩ : ∃ n, (e ++ [la + 13 + nd + 4]).length = n := ⟨_, rfl⟩
    unfold OwnI at hR4
    rw [hn4] at hrun hb4 hR4
    rw [show ((la + 13 + nd + 4 : Nat) : Int) = (la : Int) + 13 + (nd : Int) + 4 by omega] at hrun
    have hb5 : Boxed w4 (w.heap.size + 1) 43 (.slice (some ad) (m + 1) co) := (hg4.block _ ol (fun e' => HNB.out e'.symm)).trans HB.out
    have p0 := hb5.cell
    have pfz := hb5.frozen
    have pl := hb5.lt
    have HR4 := Lib.hid hR4; have HG4 := Lib.hid hg4; have HB4 := Lib.hid hb4; have HB5 := Lib.hid hb5; have RUN := Lib.hid hrun; have HN4 := Lib.hid hn4; clear hR4 hg4 hb4 hb5 hrun hn4
    refine op_append_run (.tmp 11) (.tmp 24) 43 rfl _ _ rfl rfl RUN.out ?_
    refine hK _ _ (fun h => absurd h (by decide)) ?_
    clear hK K
    try simp only [Act.put, List.setIfInBounds_toArray, List.set_cons_zero, List.set_cons_succ]
    refine sch_one rfl rfl (fun K hK => ?_)
    go_simp
    refine hK _ _ (fun h => absurd h (by decide)) ?_
    clear hK K
    try simp only [Act.put, List.setIfInBounds_toArray, List.set_cons_zero, List.set_cons_succ]
    refine sch_nil ?_
    have hne4 : ∀ j, (Value.slice A4 n4 c4).ownBlock = some j → j ≠ w.heap.size + 1 ∧ (j = w.heap.size ∨ WL.heap.size ≤ j) := fun j hj => by
      rcases HB4.out with h | h
      · rw [hj] at h; exact ⟨fun e' => HNB.out (by rw [← h, e']), HBL.out j h.symm⟩
      · rw [hj] at h; have h := Option.some.inj h; simp at h; exact ⟨by omega, .inr (by omega)⟩
    have hkf : KeepsFrom WL.heap.size w0.drew w4 := ⟨HG4.out.size, fun q ob _ hq hoc => (HG4.out.block q (Array.getElem?_eq_some_iff.1 hq).1 (fun e' => by obtain ⟨cur, hcur⟩ := ownsRow_block HR.out e'.symm; rw [show w0.drew.heap[q]? = w0.heap[q]? from rfl, hcur] at hq; injection hq with hq; rw [← hq] at hoc; cases hoc)).trans hq⟩
    have hX := HB5.out.set (.slice A4 n4 c4)
    have hR9 := ownsRow_keep (w' := w4.setCell ⟨w.heap.size + 1, 0, none⟩ (.slice A4 n4 c4)) HR4.out (fun j hj => Below.heap_setCell w4 ⟨w.heap.size + 1, 0, none⟩ _ j ((hne4 j hj).1))
    have hw := iL.size
    have hB9 : Below w.heap.size w (w4.setCell ⟨w.heap.size + 1, 0, none⟩ (.slice A4 n4 c4)) := (((HBW.out.drew).grown HG4.out HBW.out.size (fun j e' => by rcases HBL.out j e' with h | h; omega; omega)).setCell (p := ⟨w.heap.size + 1, 0, none⟩) (by show w.heap.size ≤ w.heap.size + 1; omega) _)
    try gi_wp2
    refine ⟨((KeepsOthers.drew w0).from _).trans (hkf.trans ((KeepsOthers.setCell _ _ _).from _)), (((ButS.refl _ w0).drew).grown HG4.out (fun j e' => .inl ((HBL.out j e').elim .inl (fun h => .inr (.inr h))))).set (p := ⟨w.heap.size + 1, 0, none⟩) (.inl (.inr (.inl rfl))) _, ⟨_, hX, ?_, fun j hj => (hne4 j hj).2⟩, hB9, ?_, ?_⟩
    · rw [HSN.out]; unfold OwnI; rw [HN4.out]; exact hR9
    · exact Nat.le_trans hnw (Nat.le_trans HG4.out.size (by simp [World.setCell]))
    · intro y hy
      rcases List.mem_append.1 hy with hy | hy
      · exact HPD.out y hy
      · rw [List.mem_singleton] at hy; rw [hy]; show d.length ≤ _; rw [HND.out]; exact hdl
  case done =>
    rintro D xs W hD hS ⟨⟨vo, hb, hR, _⟩, hB, hnw, hpd⟩ hK
    have o0 := hb.cell
    have ol := hb.lt
    have hR9 := ownsRow_away hR (grownBy_putObj' W D (.deferred none)) (fun r e => by cases e; exact ⟨_, hK, rfl⟩)
    have hB9 := hB.trans (belowK_b (w := w) (Nat.le_refl _) W D _ (.deferred none) (Nat.le_trans iL.size hD) hK rfl rfl)
    have hmap : (xs.map fun x => x.d.length) = rs.map fun r => r.data.length := by have := congrArg (List.map fun p : IRec => p.2.length) hS.1; rw [List.drop_zero, List.map_map, List.map_map] at this; exact this
    rw [hmap] at hR9
    have HR9 := Lib.hid hR9; have HB9 := Lib.hid hB9; clear hR hR9 hB hB9 hmap hP
    gi_wp2
    refine ⟨by simp, .inl ⟨_, _, rfl, run_takeDeferred hK, ?_⟩⟩
    exact ⟨_, results_tmp rfl _ _ _, vo, rfl, HR9.out, HB9.out⟩
end Go.Proofs.YtpmjlaiafgbjgaaDoor
end
section
namespace Go.Proofs.YtpmjlaiafgbjgaaDoor
open Go.RowKit
def lenL (rs : List Rec) (j : Nat) : Nat := (logV (rs.take j)).length
theorem lenL_eq (rs : List Rec) (j : Nat) : lenL rs j = 8 + (laidV (rs.take j) 0 startV).length := by unfold lenL logV; rw [List.length_append]; rfl
theorem lenL_mono {rs : List Rec} {i j : Nat} (h : i ≤ j) : lenL rs i ≤ lenL rs j := by
  rw [lenL_eq, lenL_eq]
  have e := laid_split (rs.take j) i 0 startV
  rw [List.take_take, Nat.min_eq_left h] at e
  rw [e, List.length_append]
  omega
theorem ends_at : ∀ (n : Nat) (rs : List Rec), rs.length ≤ n → ∀ j, j ≤ rs.length → (endsN (rs.map fun r => r.data.length))[j]? = some (lenL rs j)
  | 0, rs, h, j, hj => by
    obtain rfl := List.eq_nil_of_length_eq_zero (Nat.le_zero.1 h)
    obtain rfl : j = 0 := by simpa using hj
    rfl
  | n + 1, rs, h, j, hj => by
    rcases List.eq_nil_or_concat rs with rfl | ⟨q, r, rfl⟩
    · obtain rfl : j = 0 := by simpa using hj
      rfl
    · rw [List.concat_eq_append] at h hj ⊢
      rw [List.length_append] at h hj
      have hl : [r].length = 1 := rfl
      rw [hl] at h hj
      have ih := ends_at n q (by omega)
      have hlen := endsN_len _ (q.map fun r => r.data.length) (Nat.le_refl _)
      rw [List.length_map] at hlen
      rw [List.map_append, show ([r].map fun r : Rec => r.data.length) = [r.data.length] from rfl, endsN_snoc]
      by_cases hjq : j ≤ q.length
      · rw [List.getElem?_append_left (by omega), ih j hjq]
        unfold lenL
        rw [List.take_append_of_le_length hjq]
      · obtain rfl : j = q.length + 1 := by omega
        have hla : (endsN (q.map fun r => r.data.length)).getLastD 0 = lenL q q.length := by
          rw [List.getLastD_eq_getLast?, List.getLast?_eq_getElem?, hlen, Nat.add_sub_cancel, ih _ (Nat.le_refl _)]; rfl
        rw [hla, List.getElem?_append_right (by omega), hlen, Nat.sub_self]
        show some _ = some _
        congr 1
        unfold lenL
        rw [List.take_length, List.take_of_length_le (by rw [List.length_append, hl]; exact Nat.le_refl _), logV_snoc, List.length_append, layV_len]
        omega
theorem torn_plain {rs : List Rec} (hok : ∀ r ∈ rs, r.Ok pf) (hn : rs.length ≤ 1048576) {k : Nat} (h8 : 8 ≤ k) (hk : k ≤ (logV rs).length) :
    ∃ N, N ≤ rs.length ∧ logRead ((logV rs).take k) = (rs.take N, (if k = lenL rs N then 0 else 2), lenL rs N) ∧ lenL rs N ≤ k ∧ (N < rs.length → k < lenL rs (N + 1)) := by
  have hL : (logV rs).length = 8 + (laidV rs 0 startV).length := by unfold logV; rw [List.length_append]; rfl
  have hk' : k - 8 ≤ (laidV rs 0 startV).length := by omega
  obtain ⟨t1, t2, t3⟩ := readV_torn (F := pf) rs 0 startV (k - 8) hok (by omega) hk'
  have h1 : ((logV rs).take k).take 8 = magicV := by rw [List.take_take, Nat.min_eq_left h8]; exact log_take rs
  have h2 : ((logV rs).take k).drop 8 = (laidV rs 0 startV).take (k - 8) := by rw [List.drop_take, log_drop]
  have hread : logRead ((logV rs).take k) = (rs.take (cntV rs (k - 8)), (if k = lenL rs (cntV rs (k - 8)) then 0 else 2), lenL rs (cntV rs (k - 8))) := by
    rw [logRead_yes h1, h2, t1, t2, t3, lenL_eq]
    congr 2
    by_cases h : k - 8 = (laidV (rs.take (cntV rs (k - 8))) 0 startV).length
    · rw [if_pos h, if_pos (by omega)]
    · rw [if_neg h, if_neg (by omega)]
  by_cases hlt : k - 8 < (laidV rs 0 startV).length
  · obtain ⟨c1, c2, c3⟩ := cntV_split rs 0 startV (k - 8) hlt
    refine ⟨_, cntV_le _ _, hread, by rw [lenL_eq]; omega, fun h => ?_⟩
    have c3 := c3 c1
    rw [lenL_eq, List.take_add_one, List.getElem?_eq_getElem c1]
    show k < 8 + (laidV (rs.take _ ++ [rs[cntV rs (k - 8)]]) 0 startV).length
    rw [laidV_snoc, List.length_append, layV_len]
    omega
  · have he : k - 8 = (laidV rs 0 startV).length := by omega
    have hall : rs.take (cntV rs (k - 8)) = rs := by
      have := t1
      rw [he, List.take_length, readV_log hok hn] at this
      rw [he]; exact this.symm
    have hc : rs.length ≤ cntV rs (k - 8) := by have := congrArg List.length hall; rw [List.length_take] at this; omega
    have hc' : cntV rs (k - 8) = rs.length := by have := cntV_le rs (k - 8); omega
    refine ⟨_, cntV_le _ _, hread, ?_, fun h => by omega⟩
    rw [lenL_eq, hall]; omega
theorem torn_short {rs : List Rec} {k : Nat} (h8 : k < 8) : logRead ((logV rs).take k) = ([], 1, 0) := by
  refine logRead_no (fun h => ?_)
  have := congrArg List.length h
  rw [List.length_take, List.length_take, show magicV.length = 8 from rfl] at this
  omega
end Go.Proofs.YtpmjlaiafgbjgaaDoor
end
section
namespace Go.Proofs.YtpmjlaiafgbjgaaDoor
open Go.RowKit
theorem chained_plain {rs : List Rec} (hok : ∀ r ∈ rs, r.Ok pf) (hn : rs.length ≤ 1048576) {p j : Nat} (hp : p ≤ rs.length) (hj : j < rs.length) (hne : j ≠ p) (last' : Nat) (z : List Nat) :
    (logRead (logV (rs.take p) ++ (layV rs[j] j last' ++ z))).2.1 ≠ 0 := by
  have e : logV (rs.take p) ++ (layV rs[j] j last' ++ z) = magicV ++ (laidV (rs.take p) 0 startV ++ (layV rs[j] j last' ++ z)) := by unfold logV; rw [List.append_assoc]
  rw [e, logRead_yes (take_app rfl), show (magicV ++ (laidV (rs.take p) 0 startV ++ (layV rs[j] j last' ++ z))).drop 8 = laidV (rs.take p) 0 startV ++ (layV rs[j] j last' ++ z) from drop_app rfl]
  exact readV_chained (fun r hr => hok r (List.mem_of_mem_take hr)) (hok _ (List.getElem_mem hj)) (by rw [List.length_take]; omega) (by omega) (by rw [List.length_take]; omega) z
theorem log_cut (rs : List Rec) (j : Nat) : logV rs = logV (rs.take j) ++ laidV (rs.drop j) (0 + (rs.take j).length) (lastV (rs.take j) 0 startV) := by
  conv => lhs; unfold logV; rw [laid_split rs j, ← List.append_assoc]
  rfl
theorem log_front (rs : List Rec) (j : Nat) : (logV rs).take (lenL rs j) = logV (rs.take j) := by
  have e := log_cut rs j
  rw [e]; exact take_app rfl
theorem log_behind (rs : List Rec) (j : Nat) : (logV rs).drop (lenL rs j) = laidV (rs.drop j) (0 + (rs.take j).length) (lastV (rs.take j) 0 startV) := by
  have e := log_cut rs j
  rw [e]; exact drop_app rfl
theorem lenL_next {rs : List Rec} {j : Nat} (hj : j < rs.length) : lenL rs (j + 1) = lenL rs j + (13 + rs[j].data.length + 4) := by
  rw [lenL_eq, lenL_eq, List.take_add_one, List.getElem?_eq_getElem hj]
  show 8 + (laidV (rs.take j ++ [rs[j]]) 0 startV).length = _
  rw [laidV_snoc, List.length_append, layV_len]
  omega
theorem log_seg {rs : List Rec} {j : Nat} (hj : j < rs.length) : ∃ last', ((logV rs).drop (lenL rs j)).take (lenL rs (j + 1) - lenL rs j) = layV rs[j] j last' ∧ ∃ z, (logV rs).drop (lenL rs j) = layV rs[j] j last' ++ z := by
  have hd : rs.drop j = rs[j] :: rs.drop (j + 1) := List.drop_eq_getElem_cons hj
  have hl : (rs.take j).length = j := by rw [List.length_take]; omega
  have e := log_behind rs j
  rw [hd, laid_cons, hl, Nat.zero_add] at e
  refine ⟨_, ?_, _, e⟩
  rw [e]
  exact take_app (by rw [layV_len, lenL_next hj]; omega)
theorem log_two {rs : List Rec} {j : Nat} : (logV rs).take (lenL rs j) ++ ((logV rs).drop (lenL rs j)).take (lenL rs (j + 1) - lenL rs j) = (logV rs).take (lenL rs (j + 1)) := by
  have h := lenL_mono (rs := rs) (show j ≤ j + 1 by omega)
  have e : lenL rs (j + 1) = lenL rs j + (lenL rs (j + 1) - lenL rs j) := by omega
  conv => rhs; rw [e, List.take_add]
theorem chain_out {rs : List Rec} (hok : ∀ r ∈ rs, r.Ok pf) (hn : rs.length ≤ 1048576) {i : Nat} (hi : i + 1 < rs.length) : (logRead ((logV rs).take (lenL rs i) ++ (logV rs).drop (lenL rs (i + 1)))).2.1 ≠ 0 := by
  obtain ⟨l, _, z, e⟩ := log_seg hi
  rw [e, log_front]
  exact chained_plain hok hn (by omega) hi (by omega) l z
theorem chain_turned {rs : List Rec} (hok : ∀ r ∈ rs, r.Ok pf) (hn : rs.length ≤ 1048576) {i k : Nat} (hik : i < k) (hk : k < rs.length) (z : List Nat) : (logRead ((logV rs).take (lenL rs i) ++ (((logV rs).drop (lenL rs k)).take (lenL rs (k + 1) - lenL rs k) ++ z))).2.1 ≠ 0 := by
  obtain ⟨l, e, _⟩ := log_seg hk
  rw [e, log_front]
  exact chained_plain hok hn (by omega) hk (by omega) l z
theorem chain_twice {rs : List Rec} (hok : ∀ r ∈ rs, r.Ok pf) (hn : rs.length ≤ 1048576) {i k : Nat} (hi : i < rs.length) (hk : k < rs.length) : (logRead ((logV rs).take (lenL rs (k + 1)) ++ (((logV rs).drop (lenL rs i)).take (lenL rs (i + 1) - lenL rs i) ++ (logV rs).drop (lenL rs (k + 1))))).2.1 ≠ 0 := by
  by_cases h : i = k + 1
  · subst h
    rw [← List.append_assoc, log_two]
    obtain ⟨l, _, z, e⟩ := log_seg hi
    rw [e, log_front]
    exact chained_plain hok hn (by omega) hi (by omega) l z
  · obtain ⟨l, e, _⟩ := log_seg hi
    rw [e, log_front]
    exact chained_plain hok hn (by omega) hi h l _
end Go.Proofs.YtpmjlaiafgbjgaaDoor
end
section
namespace Go.Proofs.YtpmjlaiafgbjgaaDoor
open Go.RowKit
theorem xor_back {a m : Nat} (h : a ^^^ m = a) : m = 0 := by
  have h1 := congrArg (fun x => a ^^^ x) h
  simpa [← Nat.xor_assoc] using h1
theorem turned_plain {rs : List Rec} (hok : ∀ r ∈ rs, r.Ok pf) (hn : rs.length ≤ 1048576) {k mask : Nat} (h8 : 8 ≤ k) (hk : k < (logV rs).length) (hm : mask ≠ 0) (hm2 : mask < 256) :
    ∃ N y, N < rs.length ∧ y ≠ 0 ∧ logRead (turnV (logV rs) k mask) = (rs.take N, y, lenL rs N) ∧ lenL rs N ≤ k ∧ k < lenL rs (N + 1) := by
  have hL : (logV rs).length = 8 + (laidV rs 0 startV).length := by unfold logV; rw [List.length_append]; rfl
  have e : turnV (logV rs) k mask = magicV ++ turnV (laidV rs 0 startV) (k - 8) mask := by unfold logV; exact turnV_app_r h8
  obtain ⟨t1, t2, t3⟩ := readV_turned (F := pf) hok hn (k := k - 8) (by omega) hm hm2
  obtain ⟨c1, c2, c3⟩ := cntV_split rs 0 startV (k - 8) (by omega)
  have c3 := c3 c1
  refine ⟨cntV rs (k - 8), _, c1, t2, ?_, by rw [lenL_eq]; omega, ?_⟩
  · rw [e, logRead_yes (take_app rfl), show (magicV ++ turnV (laidV rs 0 startV) (k - 8) mask).drop 8 = turnV (laidV rs 0 startV) (k - 8) mask from drop_app rfl, t1, t3, lenL_eq]
  · rw [lenL_eq, List.take_add_one, List.getElem?_eq_getElem c1]
    show k < 8 + (laidV (rs.take _ ++ [rs[cntV rs (k - 8)]]) 0 startV).length
    rw [laidV_snoc, List.length_append, layV_len]
    omega
theorem turned_short {rs : List Rec} {k mask : Nat} (h8 : k < 8) (hm : mask ≠ 0) : logRead (turnV (logV rs) k mask) = ([], 1, 0) := by
  refine logRead_no (fun h => ?_)
  have e : turnV (logV rs) k mask = turnV magicV k mask ++ laidV rs 0 startV := by unfold logV; exact turnV_app h8
  have h : turnV magicV k mask = magicV := by rw [e] at h; exact (take_app (k := 8) (turnV_len magicV k mask)).symm.trans h
  have h1 := congrArg (fun l => l.getD k 0) h
  simp only [turnV] at h1
  rw [getD_set_same _ _ _ h8] at h1
  exact hm (xor_back h1)
theorem turned_bytes {b : List Nat} (hb : Bytes b) (k : Nat) {mask : Nat} (hm : mask < 256) : Bytes (turnV b k mask) := fun x hx => by
  rcases List.mem_or_eq_of_mem_set hx with h | rfl
  · exact hb x h
  · refine Nat.xor_lt_two_pow (n := 8) ?_ hm
    rcases Nat.lt_or_ge k b.length with h1 | h1
    · exact hb.at h1
    · rw [getD_end h1]; decide
end Go.Proofs.YtpmjlaiafgbjgaaDoor
end
section
namespace Go.Proofs.YtpmjlaiafgbjgaaDoor
open Go.RowKit
set_option maxRecDepth 100000 in
set_option maxHeartbeats 1000000 in
theorem copied_big (k : Int) (A : Option Addr) (c : Nat) (l : List Nat) (hl : l.length ≤ 140737488355328) (w : World) (hr : SlAt w A (u8v l)) : Calls Tryd.prog 25 #[.agg #[.int .i64 k, .slice A l.length c]] w fun e w' => ∃ v, e = .returned (.agg #[.int .i64 k, v]) ∧ OwnB w' w.heap.size v l ∧ Within w w' := by
  obtain ⟨W0, hW0⟩ : ∃ W0, W0 = (w.alloc (.cells #[.int .i64 k, .slice A l.length c] 50)).alloc (.cells #[.int .i64 0, .slice none 0 0] 50) := ⟨_, rfl⟩
  have k0 : W0.cell? ⟨w.heap.size, 0, none⟩ = some (.int .i64 k) := by rw [hW0]; simp
  have k1 : W0.cell? ⟨w.heap.size, 1, none⟩ = some (.slice A l.length c) := by rw [hW0]; simp
  have z0 : W0.cell? ⟨w.heap.size + 1, 0, none⟩ = some (.int .i64 0) := by rw [hW0]; simp
  have z1 : W0.cell? ⟨w.heap.size + 1, 1, none⟩ = some (.slice none 0 0) := by rw [hW0]; simp
  have zf : ∀ o, W0.frozen? ⟨w.heap.size + 1, o, none⟩ = false := fun o => by rw [hW0, show w.heap.size + 1 = (w.alloc (.cells #[.int .i64 k, .slice A l.length c] 50)).heap.size by simp]; exact World.frozen?_alloc_new _ _ _ _
  have kb : w.heap.size < W0.heap.size := by rw [hW0]; simp; omega
  have zb : w.heap.size + 1 < W0.heap.size := by rw [hW0]; simp
  have hww : Within w W0 := by rw [hW0]; exact ((Within.refl w).alloc _).alloc _
  have HWW := Lib.hid hww; have HS := Lib.hid (hr.of hww); clear hww hr
  go_enter Tryd.func25, Tryd.ntmps25
  go_wp2_with fail
  rw [← hW0]
  clear hW0
  refine wp_region_schG (fun W => W.cell? ⟨w.heap.size, 0, none⟩ = some (.int .i64 k) ∧ W.cell? ⟨w.heap.size, 1, none⟩ = some (.slice A l.length c) ∧ (∀ o, W.frozen? ⟨w.heap.size + 1, o, none⟩ = false) ∧ W.cell? ⟨w.heap.size + 1, 0, none⟩ = some (.int .i64 0) ∧ W.cell? ⟨w.heap.size + 1, 1, none⟩ = some (.slice none 0 0) ∧ w.heap.size < W.heap.size ∧ w.heap.size + 1 < W.heap.size ∧ W = W0) 7 (.firm 0 (.firm 1 (.firm 3 (.firm 4 (.one 2 (.one 5 (.firm 6 (.one 7 .nil)))))))) (by kernel_rfl) (by kernel_rfl) ⟨k0, k1, zf, z0, z1, kb, zb, rfl⟩ ?_
  rintro w0 ⟨k0, k1, zf, z0, z1, kb, zb, rfl⟩
  try simp only [Act.put, List.setIfInBounds_toArray, List.set_cons_zero, List.set_cons_succ]
  iterate 4
    apply sch_firm rfl rfl (by repeat (first | with_reducible exact Within.refl _ | with_reducible assumption | with_reducible refine Within.alloc ?_ _ | with_reducible refine Within.drew ?_ | with_reducible refine Within.drewN ?_ _ | with_reducible refine Within.setCell ?_ (by first | (simp; done) | (simp; omega)) _ | with_reducible refine Within.trans ?_ (by assumption)))
    · intro wq hq
      have hcq := hq.cells
      clear hq
      go_simp
      rfl
    try simp only [Act.put, List.setIfInBounds_toArray, List.set_cons_zero, List.set_cons_succ]
  refine sch_one rfl rfl (fun K hK => ?_)
  go_simp
  refine hK _ _ (fun _ => (by repeat (first | with_reducible exact Within.refl _ | with_reducible assumption | with_reducible refine Within.alloc ?_ _ | with_reducible refine Within.drew ?_ | with_reducible refine Within.drewN ?_ _ | with_reducible refine Within.setCell ?_ (by first | (simp; done) | (simp; omega)) _ | with_reducible refine Within.trans ?_ (by assumption)))) ?_
  clear hK K
  try simp only [Act.put, List.setIfInBounds_toArray, List.set_cons_zero, List.set_cons_succ]
  refine sch_one rfl rfl (fun K hK => ?_)
  have hin2 := ((Within.refl w0).drew).alloc (.cells #[] 5)
  obtain ⟨v5, w5, hrun, hO5, hB5⟩ := run_app_u8 _ w0.heap.size _ [] l (OwnB.lit w0.drew w0.heap.size (Nat.le_refl _) [] (by simp)) A c (HS.out.of hin2) (by rw [List.length_nil]; omega) hin2.size
  rw [List.nil_append] at hO5
  have hX5 : Within w0 w5 := Below.trans hin2 hB5
  have RUN := Lib.hid hrun; have HO5 := Lib.hid hO5; clear hrun hO5 hB5 hin2
  refine op_append_run (.tmp 5) (.tmp 7) 22 rfl _ _ rfl rfl RUN.out ?_
  obtain ⟨A5, c5, rfl, hx5, hy5, hz5⟩ := HO5.out.form
  clear hx5 hy5 hz5
  refine hK _ _ (fun _ => (by repeat (first | with_reducible exact Within.refl _ | with_reducible assumption | with_reducible refine Within.alloc ?_ _ | with_reducible refine Within.drew ?_ | with_reducible refine Within.drewN ?_ _ | with_reducible refine Within.setCell ?_ (by first | (simp; done) | (simp; omega)) _ | with_reducible refine Within.trans ?_ (by assumption)))) ?_
  clear hK K
  try simp only [Act.put, List.setIfInBounds_toArray, List.set_cons_zero, List.set_cons_succ]
  apply sch_firm rfl rfl (by repeat (first | with_reducible exact Within.refl _ | with_reducible assumption | with_reducible refine Within.alloc ?_ _ | with_reducible refine Within.drew ?_ | with_reducible refine Within.drewN ?_ _ | with_reducible refine Within.setCell ?_ (by first | (simp; done) | (simp; omega)) _ | with_reducible refine Within.trans ?_ (by assumption)))
  · intro wq hq
    have hcq := hq.cells
    clear hq
    go_simp
    rfl
  try simp only [Act.put, List.setIfInBounds_toArray, List.set_cons_zero, List.set_cons_succ]
  refine sch_one rfl rfl (fun K hK => ?_)
  have f5 : w5.frozen? ⟨w.heap.size + 1, 0, none⟩ = false := (hX5.frozens _ _ zb).trans (zf 0)
  have f6 : w5.frozen? ⟨w.heap.size + 1, 1, none⟩ = false := (hX5.frozens _ _ zb).trans (zf 1)
  have y0 := (hX5.cells _ 0 zb).trans z0
  have y1 := (hX5.cells _ 1 zb).trans z1
  have zb5 := Nat.lt_of_lt_of_le zb hX5.size
  go_simp
  refine hK _ _ (fun h => absurd h (by decide)) ?_
  clear hK K
  try simp only [Act.put, List.setIfInBounds_toArray, List.set_cons_zero, List.set_cons_succ]
  refine sch_nil ?_
  go_wp2
  obtain ⟨n5, hn5⟩ : ∃ n5, n5 = l.length := ⟨_, rfl⟩
  refine bodyPost_ret (v := .agg #[.int .i64 k, .slice A5 l.length c5]) (by simp [results, Tryd.results25, go_sem, y0, y1, f5, f6]) rfl ⟨_, rfl, ?_, ?_⟩
  · exact ownsRow_keep (ownsRow_keep (HO5.out.less HWW.out.size) (fun j hj => Below.heap_setCell _ _ _ _ (by have := (HO5.out.lt j hj).1; simp; omega))) (fun j hj => Below.heap_setCell _ _ _ _ (by have := (HO5.out.lt j hj).1; simp; omega))
  · exact (((HWW.out.trans hX5).setCell (by simp) _).setCell (by simp) _)
end Go.Proofs.YtpmjlaiafgbjgaaDoor
end
section
namespace Go.Proofs.YtpmjlaiafgbjgaaDoor
open Go.RowKit
def toRec (r : IRec) : Rec := ⟨r.1.toNat, r.2⟩
def appendV (rs : List Rec) (r : IRec) : List Rec × Int × Int :=
  if checkR pf r.1 r.2 ≠ 0 then (rs, 0, checkR pf r.1 r.2) else if 1048576 ≤ rs.length then (rs, 0, 2) else (rs ++ [toRec r], (rs.length : Int), 0)
theorem appendV_bad {rs : List Rec} {r : IRec} (h : checkR pf r.1 r.2 ≠ 0) : appendV rs r = (rs, 0, checkR pf r.1 r.2) := if_pos h
theorem appendV_full {rs : List Rec} {r : IRec} (h : checkR pf r.1 r.2 = 0) (h2 : 1048576 ≤ rs.length) : appendV rs r = (rs, 0, 2) := by unfold appendV; rw [if_neg (by rw [h]; decide), if_pos h2]
theorem appendV_good {rs : List Rec} {r : IRec} (h : checkR pf r.1 r.2 = 0) (h2 : rs.length < 1048576) : appendV rs r = (rs ++ [toRec r], (rs.length : Int), 0) := by unfold appendV; rw [if_neg (by rw [h]; decide), if_neg (by omega)]
theorem toRec_ok {r : IRec} (h : checkR pf r.1 r.2 = 0) (hb : Bytes r.2) : ((toRec r).kind : Int) = r.1 ∧ (toRec r).Ok pf := by
  have hk : 1 ≤ r.1 ∧ r.1 ≤ 3 := by
    by_cases h1 : r.1 < 1 ∨ 3 < r.1
    · rw [checkR_kind h1] at h; cases h
    · omega
  have e : ((toRec r).kind : Int) = r.1 := by show ((r.1.toNat : Nat) : Int) = r.1; omega
  exact ⟨e, ⟨by rw [e]; exact h, hb⟩⟩
theorem appendV_ok {rs : List Rec} {r : IRec} (h : ∀ q ∈ rs, q.Ok pf) (hn : rs.length ≤ 1048576) (hb : Bytes r.2) : (∀ q ∈ (appendV rs r).1, q.Ok pf) ∧ (appendV rs r).1.length ≤ 1048576 := by
  by_cases h1 : checkR pf r.1 r.2 = 0
  · by_cases h2 : 1048576 ≤ rs.length
    · rw [appendV_full h1 h2]; exact ⟨h, hn⟩
    · rw [appendV_good h1 (by omega)]
      refine ⟨fun q hq => ?_, by show (rs ++ [toRec r]).length ≤ _; rw [List.length_append]; simp; omega⟩
      rcases List.mem_append.1 hq with hq | hq
      · exact h q hq
      · rw [List.mem_singleton] at hq; rw [hq]; exact (toRec_ok h1 hb).2
  · rw [appendV_bad h1]; exact ⟨h, hn⟩
def logOf : List IRec → List Rec
  | l => l.foldl (fun rs r => (appendV rs r).1) []
theorem logOf_snoc (l : List IRec) (r : IRec) : logOf (l ++ [r]) = (appendV (logOf l) r).1 := by unfold logOf; rw [List.foldl_append]; rfl
theorem logOf_ok : ∀ (n : Nat) (l : List IRec), l.length ≤ n → (∀ r ∈ l, Bytes r.2) → (∀ q ∈ logOf l, q.Ok pf) ∧ (logOf l).length ≤ 1048576
  | 0, l, hn, _ => by
    obtain rfl := List.eq_nil_of_length_eq_zero (Nat.le_zero.1 hn)
    exact ⟨fun q hq => (by cases hq), Nat.zero_le _⟩
  | n + 1, l, hn, hb => by
    rcases List.eq_nil_or_concat l with rfl | ⟨m, r, rfl⟩
    · exact ⟨fun q hq => (by cases hq), Nat.zero_le _⟩
    · rw [List.concat_eq_append] at hn hb ⊢
      rw [List.length_append] at hn
      obtain ⟨h1, h2⟩ := logOf_ok n m (by simp at hn; omega) (fun q hq => hb q (by simp [hq]))
      rw [logOf_snoc]
      exact appendV_ok h1 h2 (hb r (by simp))
theorem Append_any (S : Nat → Prop) (xb : Nat) (rs : List Rec) (hok : ∀ q ∈ rs, q.Ok pf) (D : Option Addr) (cd : Nat) (k : Int) (d : List Nat) (hb : Bytes d) (hcd : d.length ≤ cd) (hdl : d.length ≤ 1152921504606846976) (w : World) (hT : FmS w) (hP : LogS w S xb rs) (hr : SlAt w D (u8v d)) : Calls Tryd.prog 24 #[.pointer (some ⟨xb, 0, none⟩), .agg #[.int .i64 k, .slice D d.length cd]] w fun e w' => e = .returned (.tuple #[.int .i64 (appendV rs (k, d)).2.1, .int .i64 (appendV rs (k, d)).2.2]) ∧ LogS w' (More S w w') xb (appendV rs (k, d)).1 ∧ ButS S w w' := by
  by_cases h1 : checkR pf k d = 0
  · by_cases h2 : 1048576 ≤ rs.length
    · rw [appendV_full (r := (k, d)) h1 h2]
      refine (Append_full S xb rs hok D cd d h2 k h1 hb hcd hdl w hT hP hr).mono ?_
      rintro e w' ⟨he, hi⟩
      exact ⟨he, (hP.of hi).mono fun j hj => .inl hj, ButS.in_ hi⟩
    · rw [appendV_good (r := (k, d)) h1 (by omega)]
      obtain ⟨e1, _⟩ := toRec_ok (r := (k, d)) h1 hb
      have e1 : ((k.toNat : Nat) : Int) = k := e1
      have h := Append_good S xb rs hok D cd d (by omega) k.toNat (by rw [e1]; exact h1) hb hcd hdl w hT hP hr
      rw [e1] at h
      exact h
  · rw [appendV_bad (r := (k, d)) h1]
    refine (Append_bad S xb rs hok D cd d k h1 hb hcd hdl w hT hP hr).mono ?_
    rintro e w' ⟨he, hi⟩
    exact ⟨he, (hP.of hi).mono fun j hj => .inl hj, ButS.in_ hi⟩
theorem irs_take {rs : List IRec} {i : Nat} {r : IRec} (h : rs[i]? = some r) : rs.take i ++ [r] = rs.take (i + 1) := take_snoc h
theorem RecAt.cells' {w : World} {D : Nat → Prop} {A : Option Addr} {ls : List IRec} (h : RecAt w D A ls) {i : Nat} {r : IRec} (hi : ls[i]? = some r) : ∃ ad Dv cv, A = some ad ∧ ad.block < w.heap.size ∧ w.cell? (ad.add (i * 2)) = some (.int .i64 r.1) ∧ w.cell? ⟨(ad.add (i * 2)).block, (ad.add (i * 2)).off + 1, none⟩ = some (.slice Dv r.2.length cv) ∧ r.2.length ≤ cv ∧ SlAt w Dv (u8v r.2) ∧ Bytes r.2 := by
  obtain ⟨ad, Dv, cv, h1, h2, _, h4, h5, h6, h7, _, h9⟩ := h i r hi
  refine ⟨ad, Dv, cv, h1, h2, h4, ?_, h6, h7, h9⟩
  rw [← add_add, add_plain' _ (by decide)] at h5
  exact h5
theorem RecAt.all_bytes {w : World} {D : Nat → Prop} {C : Option Addr} {rs : List IRec} (h : RecAt w D C rs) : ∀ r ∈ rs, Bytes r.2 := by
  intro r hr
  obtain ⟨i, hi⟩ := List.getElem?_of_mem hr
  obtain ⟨_, _, _, _, _, _, _, _, _, _, _, hb⟩ := h i r hi
  exact hb
set_option maxRecDepth 100000 in
set_option maxHeartbeats 1000000 in
theorem log_any (D : Nat → Prop) (C : Option Addr) (cc : Nat) (ls : List IRec) (hle : ls.length ≤ 4398046511104) (hz : ∀ r ∈ ls, r.2.length ≤ 140737488355328) (w : World) (hT : FmS w) (hrc : RecAt w D C ls) : Calls Tryd.prog 21 #[.slice C ls.length cc] w fun e w' => ∃ xb, e = .returned (.pointer (some ⟨xb, 0, none⟩)) ∧ LogS w' (fun j => w.heap.size ≤ j ∧ j < w'.heap.size) xb (logOf ls) ∧ Within w w' := by
  have hby := hrc.all_bytes
  obtain ⟨n, hn⟩ : ∃ n, ls.length = n := ⟨_, rfl⟩
  have HN := Lib.hid hn
  rw [hn] at hle ⊢
  have HT := Lib.hid hT; have HR := Lib.hid hrc; have HBY := Lib.hid hby; clear hn hT hrc hby
  go_enter Tryd.func21, Tryd.ntmps21
  go_wp2_with fail
  refine (New_log w).mono ?_; rintro e1 w1 ⟨xb, rfl, hL1, h1⟩
  have HL1 := Lib.hid hL1; have H1 := Lib.hid h1; clear hL1 h1
  go_wp2
  go_loopw [4] (fun iv wr => ∃ i : Nat, i ≤ n ∧ iv = .int .i64 (i : Int) ∧ LogS wr (fun j => w.heap.size ≤ j ∧ j < wr.heap.size) xb (logOf (ls.take i)) ∧ Within w wr) (fun iv _ => n - (intOf iv).toNat)
  case atStart => exact ⟨0, by omega, rfl, HL1.out, H1.out⟩
  case round =>
    obtain ⟨i, hi, rfl, hP, hin⟩ := hrel
    by_cases hlt : i < n
    · have hlt' : i < ls.length := by rw [HN.out]; exact hlt
      obtain ⟨r, hr⟩ : ∃ r, ls[i]? = some r := ⟨_, List.getElem?_eq_getElem hlt'⟩
      obtain ⟨ad, Dv, cv, rfl, hb, c0, c1, hcv, hs1, hby⟩ := (HR.out.of hin).cells' hr
      have hmr := List.mem_of_getElem? hr
      have hsn := logOf_snoc (ls.take i) r
      rw [irs_take hr] at hsn
      have hok := (logOf_ok _ (ls.take i) (Nat.le_refl _) (fun q hq => HBY.out q (List.mem_of_mem_take hq))).1
      have hzr := hz r hmr
      obtain ⟨k, d⟩ := r
      simp only at c0 c1 hcv hs1 hby hzr
      have CP := Lib.hid (copied_big k Dv cv d hzr wr hs1)
      have AP := Lib.hid (fun W A c (h : Within wr W) (hc : d.length ≤ c) (hs : SlAt W A (u8v d)) => Append_any _ xb (logOf (ls.take i)) hok A c k d hby hc (by omega) W (HT.out.of (hin.trans h)) (hP.of h) hs)
      obtain ⟨nd, hnd⟩ : ∃ n, d.length = n := ⟨_, rfl⟩
      rw [hnd] at c1 CP AP
      have HND := Lib.hid hnd
      obtain ⟨rs', hrs'⟩ : ∃ x, logOf (ls.take (i + 1)) = x := ⟨_, rfl⟩
      rw [hrs'] at hsn
      have HRS := Lib.hid hrs'
      obtain ⟨⟨q1, q2, q3⟩, hq⟩ : ∃ t, appendV (logOf (ls.take i)) (k, d) = t := ⟨_, rfl⟩
      rw [hq] at AP hsn
      have HSN := Lib.hid hsn
      have b1 : (i : Int) < (n : Int) := by omega
      have HIN := Lib.hid hin; have HP := Lib.hid hP; have HB := Lib.hid hb; clear hin hP hr hmr hsn hok hzr hs1 hby hcv hnd hrs' hq hb
      go_wp2_with fail
      refine CP.out.mono ?_; rintro e2 w2 ⟨v2, rfl, hO2, h2⟩
      obtain ⟨A2, c2, rfl, hc2, hs2, _⟩ := hO2.form
      rw [HND.out] at hc2 ⊢
      have AP2 := Lib.hid (AP.out w2 A2 c2 h2 hc2 hs2)
      have H2 := Lib.hid h2; clear h2 hc2 hs2 hO2 AP
      go_wp2_with fail
      refine AP2.out.mono ?_; rintro e3 w3 ⟨rfl, hL3, hB3⟩
      have hB3' : ButS (fun j => w.heap.size ≤ j) wr w3 := (ButS.in_ H2.out).trans hB3 (fun j _ h => h.1)
      have hw3 : Within w w3 := HIN.out.asides hB3' fun j h => h
      have hL3' := hL3.mono (T := fun j => w.heap.size ≤ j ∧ j < w3.heap.size) (fun j hj => by
        rcases hj with hj | hj
        · exact ⟨hj.1, Nat.lt_of_lt_of_le hj.2 hB3'.size⟩
        · have h1 := HIN.out.size; have h2 := hj.1; have h3 := H2.out.size; exact ⟨by omega, hj.2⟩)
      rw [show q1 = rs' from HSN.out.symm, ← HRS.out] at hL3'
      have HL3 := Lib.hid hL3'; have HW3 := Lib.hid hw3; clear hL3 hL3' hB3 hB3' hw3 AP2
      go_wp2
      go_roundw
      case rel => exact ⟨i + 1, hlt, by go_num, HL3.out, HW3.out⟩
      case measure => simp [intOf]; omega
    · obtain rfl : i = n := by omega
      rw [← HN.out, List.take_length] at hP
      have HP := Lib.hid hP; have HIN := Lib.hid hin; clear hP hin
      go_wp2
      go_ret
      exact ⟨xb, rfl, HP.out, HIN.out⟩
end Go.Proofs.YtpmjlaiafgbjgaaDoor
end
section
namespace Go.Proofs.YtpmjlaiafgbjgaaDoor
section
variable {P : Program} {ops : Array Oper} {Q : Exit → Act → World → Prop} {md : Region.Mode} {S : World → Prop}
variable {p k : Nat} {a : Act} {w : World}
theorem wpAnyG_mono {S S2 : World → Prop} (h : ∀ w, S2 w → S w) {p : Nat} : ∀ (fuel : Nat) (listed : Array Bool) (a : Act) (w : World), wpAnyG P md ops Q S2 p fuel listed a w → wpAnyG P md ops Q S p fuel listed a w
  | 0, _, _, _, h' => h'
  | fuel + 1, _, _, _, h' => ⟨h'.1, fun i hi => wpOp_mono (fun _ _ h'' => ⟨fun hp => h _ (h''.1 hp), wpAnyG_mono h fuel _ _ _ h''.2⟩) (h'.2 i hi)⟩
inductive Shf where
  | sch (t : Sch) : Shf
  | firm (k : Nat) (r : Shf) : Shf
  | one (k : Nat) (r : Shf) : Shf
  | turn (r : Shf) : Shf
def Shf.long : Shf → Nat → Bool
  | .sch t, n => t.long n
  | .firm _ r, n => decide (0 < n) && r.long (n - 1)
  | .one _ r, n => decide (0 < n) && r.long (n - 1)
  | .turn r, n => r.long n
def Shf.ok (md : Region.Mode) (ops : Array Oper) (p : Nat) : Shf → Array Bool → Bool
  | .sch t, listed => t.ok md ops p listed
  | .firm k r, listed => (Region.ready md ops listed).contains k && Region.free md ops listed k && decide (k < p) && r.ok md ops p (listed.setIfInBounds k true)
  | .one k r, listed => decide (Region.ready md ops listed = [k]) && decide (k < p) && r.ok md ops p (listed.setIfInBounds k true)
  | .turn r, listed => r.ok md ops p listed
def wpShf (P : Program) (ops : Array Oper) (Q : Exit → Act → World → Prop) (p : Nat) : Shf → (World → Prop) → Act → World → Prop
  | .sch t, S, a, w => wpSch P ops Q S p t a w
  | .firm k r, S, a, w => S w ∧ ∃ o v, ops[k]? = some o ∧ YieldsIf P ops S o v a ∧ wpShf P ops Q p r S (a.put o.dst v) w
  | .one k r, S, a, w => wpOp P ops Q k (fun a' w' => S w' ∧ wpShf P ops Q p r S a' w') a w
  | .turn r, S, a, w => ∃ S2 : World → Prop, (∀ w, S2 w → S w) ∧ wpShf P ops Q p r S2 a w
theorem wpAnyG_shf {p : Nat} (hsel : Region.noSelect ops = true) (hQ : ∀ c a d v w, Q (.panic c) (a.put d v) w → Q (.panic c) a w) (hs : Region.sinkB md ops p = true) (hc : Region.chainB md ops p = true) (hn : p < ops.size) :
    ∀ (t : Shf) (S : World → Prop) (n : Nat) (listed : Array Bool) (a : Act) (w : World), t.long n = true → HeadInv md ops p listed → t.ok md ops p listed = true → wpShf P ops Q p t S a w → wpAnyG P md ops Q S p n listed a w := by
  intro t
  induction t with
  | sch t =>
    intro S n listed a w hl inv hB h
    exact wpAnyG_sch hsel hQ hs hc hn t n listed a w hl (.inl inv) hB h
  | firm k r ih =>
    intro S n listed a w hl inv hB h
    simp only [Shf.long, Bool.and_eq_true, decide_eq_true_eq] at hl
    obtain ⟨m, rfl⟩ : ∃ m, n = m + 1 := ⟨n - 1, by omega⟩
    simp only [Shf.ok, Bool.and_eq_true, decide_eq_true_eq] at hB
    obtain ⟨⟨⟨hr, hf⟩, hkp⟩, hB'⟩ := hB
    obtain ⟨hS, o, v, ho, hy, hK⟩ := h
    have hr' : k ∈ Region.ready md ops listed := by simpa using hr
    exact wpAnyG_first ho (Region.noSelect_spec hsel) (fun c a w => hQ c a _ _ w) hs hc hn hkp m listed a w inv (Region.free_spec ho hf) hr' hy hS
      (ih S m _ _ _ hl.2 (inv.set hr' hkp) hB' hK)
  | one k r ih =>
    intro S n listed a w hl inv hB h
    simp only [Shf.long, Bool.and_eq_true, decide_eq_true_eq] at hl
    obtain ⟨m, rfl⟩ : ∃ m, n = m + 1 := ⟨n - 1, by omega⟩
    simp only [Shf.ok, Bool.and_eq_true, decide_eq_true_eq] at hB
    obtain ⟨⟨hr, hd⟩, hB'⟩ := hB
    refine ⟨fun h0 => (by rw [hr] at h0; cases h0), fun i hi => ?_⟩
    have hi' : k ∈ Region.ready md ops listed := by rw [hr]; exact List.mem_singleton.2 rfl
    rw [hr] at hi
    have hik : i = k := by simpa using hi
    subst hik
    exact wpOp_mono (fun a' w' h' => ⟨fun _ => h'.1, ih S m _ _ _ hl.2 (inv.set hi' hd) hB' h'.2⟩) h
  | turn r ih =>
    intro S n listed a w hl inv hB h
    obtain ⟨S2, h2, h3⟩ := h
    exact wpAnyG_mono h2 n listed a w (ih S2 n listed a w hl inv hB h3)
def Shf.okAll (ops : Array Oper) (p : Nat) (t : Shf) : Bool :=
  Region.noSelect ops && decide (p < ops.size) && Region.sinkB .any ops p && Region.chainB .any ops p && t.long ops.size && t.ok .any ops p (Array.replicate ops.size false)
theorem wp_region_shf {id : Nat} {a : Act} {w : World} (S : World → Prop) (F : World → Prop) (p : Nat) (t : Shf) (hm : P.follows .mixedOrders = true) (hB : t.okAll ops p = true) (hF : F w)
    (h : ∀ w0, F w0 → wpShf P ops (OnlyN Q) p t S a w0.drew) : (Code.region id ops true).wp P Q a w := by
  simp only [Shf.okAll, Bool.and_eq_true, decide_eq_true_eq] at hB
  obtain ⟨⟨⟨⟨⟨hsel, hn⟩, hs⟩, hc⟩, hlen⟩, hsc⟩ := hB
  have inv0 : HeadInv .any ops p (Array.replicate ops.size false) :=
    ⟨by simp, fun j oj _ hl => (by rw [getD_replicate_false] at hl; cases hl), fun t _ ht => Go.getD_in (by simpa using ht) (getD_replicate_false _ _)⟩
  exact Code.wp_mono OnlyN.imp (wp_region_any hm (wpAny_of_G _ _ _ _ (wpAnyG_shf (md := .any) hsel (Q := OnlyN Q) (fun c a d v w h => h) hs hc hn t S _ _ a w.drew hlen inv0 hsc (h w hF))))
variable {t : Shf}
theorem shf_firm {o : Oper} {v : Value} (ho : ops.toList[k]? = some o) (hg : o.guard = none) (hS : S w) (h1 : ∀ w, S w → firmAt P o a w v) (h2 : wpShf P ops (OnlyN Q) p t S (a.put o.dst v) w) : wpShf P ops (OnlyN Q) p (.firm k t) S a w :=
  ⟨hS, o, v, (Array.getElem?_toList ▸ ho), .inl ⟨by simp [Region.wanted, hg], fun w hw => (h1 w hw).run⟩, h2⟩
theorem shf_one {o : Oper} (ho : ops.toList[k]? = some o) (hg : o.guard = none) (h : ∀ K : Act → World → Prop, (∀ a' w', S w' → wpShf P ops (OnlyN Q) p t S a' w' → K a' w') → o.wp P a w K (OnlyN Q)) : wpShf P ops (OnlyN Q) p (.one k t) S a w :=
  sch_op ho hg fun K hK => h K fun a' w' hS hr => hK a' w' ⟨hS, hr⟩
theorem shf_want {o : Oper} {v : Value} (ho : ops.toList[k]? = some o) (hg : Region.wanted o (yielded ops a.tmps) = true) (hS : S w) (h1 : ∀ w, S w → firmAt P o a w v) (h2 : wpShf P ops (OnlyN Q) p t S (a.put o.dst v) w) : wpShf P ops (OnlyN Q) p (.firm k t) S a w :=
  ⟨hS, o, v, (Array.getElem?_toList ▸ ho), .inl ⟨hg, fun w hw => (h1 w hw).run⟩, h2⟩
theorem shf_one_want {o : Oper} (ho : ops.toList[k]? = some o) (hg : Region.wanted o (yielded ops a.tmps) = true) (h : ∀ K : Act → World → Prop, (∀ a' w', S w' → wpShf P ops (OnlyN Q) p t S a' w' → K a' w') → o.wp P a w K (OnlyN Q)) : wpShf P ops (OnlyN Q) p (.one k t) S a w := by
  show wpOp P ops (OnlyN Q) k _ a w
  unfold wpOp
  rw [Array.getElem?_toList] at ho
  simp only [ho]
  rw [if_pos hg]
  exact .inl (h _ fun a' w' hS hr => ⟨hS, hr⟩)
theorem shf_sch {u : Sch} (h : wpSch P ops (OnlyN Q) S p u a w) : wpShf P ops (OnlyN Q) p (.sch u) S a w := h
theorem shf_turn (S2 : World → Prop) (h : ∀ w, S2 w → S w) (h2 : wpShf P ops (OnlyN Q) p t S2 a w) : wpShf P ops (OnlyN Q) p (.turn t) S a w := ⟨S2, h, h2⟩
end
end Go.Proofs.YtpmjlaiafgbjgaaDoor
end
section
namespace Go.Proofs.YtpmjlaiafgbjgaaDoor
open Go.RowKit
theorem round_big (c : Int) (m : Nat) (h1 : m ≤ 70368744177664) : ∃ k : Nat, k ≤ m ∧ (c.tmod ((m : Int) + 1) + (m : Int) + 1).tmod ((m : Int) + 1) = (k : Int) ∧ -((m : Int) + 1) < c.tmod ((m : Int) + 1) ∧ c.tmod ((m : Int) + 1) < (m : Int) + 1 := by
  have hM : (0 : Int) < (m : Int) + 1 := by omega
  have a1 : c.tmod ((m : Int) + 1) < (m : Int) + 1 := Int.tmod_lt_of_pos _ hM
  have a2 : -((m : Int) + 1) < c.tmod ((m : Int) + 1) := by
    rcases Int.le_total 0 c with hc | hc
    · have := Int.tmod_nonneg ((m : Int) + 1) hc; omega
    · have h2 := Int.tmod_lt_of_pos (-c) hM
      rw [Int.neg_tmod] at h2
      omega
  have a3 : 0 ≤ c.tmod ((m : Int) + 1) + (m : Int) + 1 := by omega
  have a4 := Int.tmod_nonneg ((m : Int) + 1) a3
  have a5 := Int.tmod_lt_of_pos (c.tmod ((m : Int) + 1) + (m : Int) + 1) hM
  refine ⟨((c.tmod ((m : Int) + 1) + (m : Int) + 1).tmod ((m : Int) + 1)).toNat, by omega, by omega, a2, a1⟩
structure EndsAt (w : World) (A : Option Addr) (rs : List Rec) : Prop where
  all : ∀ j, j ≤ rs.length → ∃ ad, A = some ad ∧ ad.block < w.heap.size ∧ w.cell? (ad.add j) = some (.int .i64 (lenL rs j : Int))
theorem EndsAt.of {w w' : World} {A : Option Addr} {rs : List Rec} (h : EndsAt w A rs) (k : Within w w') : EndsAt w' A rs := ⟨fun j hj => by
  obtain ⟨ad, e, h1, h2⟩ := h.all j hj
  exact ⟨ad, e, Nat.lt_of_lt_of_le h1 k.size, (k.cell (by rw [add_block]; exact h1)).trans h2⟩⟩
theorem OwnI.ends {w : World} {base : Nat} {v : Value} {rs : List Rec} (h : OwnI w base v (endsN (rs.map fun r => r.data.length))) : ∃ ad c, v = .slice (some ad) (rs.length + 1) c ∧ rs.length + 1 ≤ c ∧ EndsAt w (some ad) rs := by
  have hlen := endsN_len _ (rs.map fun r => r.data.length) (Nat.le_refl _)
  rw [List.length_map] at hlen
  obtain ⟨A, c, rfl, hc, hs, _⟩ := owns_form h
  obtain ⟨ad, rfl, hb, hx⟩ := hs (by rw [i64v_len]; omega)
  rw [hlen] at hc ⊢
  refine ⟨ad, c, rfl, hc, ⟨fun j hj => ⟨ad, rfl, hb, hx j _ ?_⟩⟩⟩
  unfold i64v
  rw [List.getElem?_map, ends_at _ rs (Nat.le_refl _) j hj]; rfl
theorem RecsO.same' {w : World} {base : Nat} {v : Value} {rs : List IRec} (h : RecsO w base v rs) : ∃ A c, v = .slice A rs.length c ∧ RecB w A rs ∧ rs.length ≤ c := by
  obtain ⟨A, c, e, h1, h2, _, _⟩ := h.at
  exact ⟨A, c, e, h2, h1⟩
theorem RecB.front {w : World} {A : Option Addr} {rs : List IRec} (h : RecB w A rs) (n : Nat) : RecB w A (rs.take n) := fun i r hi => h i r (by
  rw [List.getElem?_take] at hi
  split at hi
  · exact hi
  · cases hi)
end Go.Proofs.YtpmjlaiafgbjgaaDoor
end
section
namespace Go.Proofs.YtpmjlaiafgbjgaaDoor
open Go.RowKit
theorem logV_small {l : List Rec} (h : ∀ r ∈ l, r.data.length ≤ 1048576) (hn : l.length ≤ 1048576) : (logV l).length ≤ 8796093022208 := by
  have h1 := laidV_le l 0 startV h
  unfold logV
  rw [List.length_append, show magicV.length = 8 from rfl]
  omega
theorem round_len (c : Int) (m : Nat) (h0 : 0 < m) (h1 : m ≤ 70368744177664) : ∃ k : Nat, k < m ∧ (c.tmod (m : Int) + (m : Int)).tmod (m : Int) = (k : Int) ∧ -(m : Int) < c.tmod (m : Int) ∧ c.tmod (m : Int) < (m : Int) := by
  obtain ⟨n, rfl⟩ : ∃ n, m = n + 1 := ⟨m - 1, by omega⟩
  obtain ⟨k, a, b, c1, d⟩ := round_big c n (by omega)
  have e : ((n + 1 : Nat) : Int) = (n : Int) + 1 := by omega
  rw [e]
  rw [Int.add_assoc] at b
  exact ⟨k, by omega, b, c1, d⟩
theorem OwnI.ends' {w : World} {base : Nat} {v : Value} {rs : List Rec} (h : OwnI w base v (endsN (rs.map fun r => r.data.length))) : ∃ ad c, v = .slice (some ad) (rs.length + 1) c ∧ rs.length + 1 ≤ c ∧ EndsAt w (some ad) rs ∧ base ≤ ad.block := by
  obtain ⟨A, c, e, _, _, hb⟩ := owns_form h
  obtain ⟨ad, c', e', hc, hE⟩ := h.ends
  rw [e'] at e
  injection e with e1
  exact ⟨ad, c', e', hc, hE, hb ad e1.symm⟩
set_option maxRecDepth 100000 in
set_option maxHeartbeats 2000000 in
theorem jchained_walk (D : Nat → Prop) (C : Option Addr) (cc : Nat) (ls : List IRec) (hrl : ls.length * 32 ≤ 140737488355328) (hz : ∀ r ∈ ls, r.2.length ≤ 140737488355328) (ci ck cw : Int) (w : World) (hT : FmS w) (hrc : RecAt w D C ls) : Calls Tryd.prog 7 #[.slice C ls.length cc, .int .i64 ci, .int .i64 ck, .int .i64 cw] w fun e w' => e = .returned (.bool true) ∧ Within w w' := by
  have hby := hrc.all_bytes
  obtain ⟨hok, hle⟩ := logOf_ok _ ls (Nat.le_refl _) hby
  have hlog := logV_small (fun q hq => (hok q hq).parts.2.2) hle
  have hbt := log_bytes hok
  have LG := Lib.hid (log_any D C cc ls (by omega) hz w hT hrc)
  obtain ⟨rs, hrs⟩ : ∃ x, logOf ls = x := ⟨_, rfl⟩
  rw [hrs] at hok hle hlog hbt LG
  have AW := Lib.hid (fun W (h : Within w W) => jawake_true W (hT.of h))
  have BYT := Lib.hid (fun W S xb (h : LogS W S xb rs) => Bytes_log S xb rs (Nat.le_trans hlog (by decide)) W h)
  have EN := Lib.hid (fun W S xb (h : LogS W S xb rs) (hS : ∀ j, S j → j < W.heap.size) => ends_log S xb rs (fun q hq => ⟨(hok q hq).parts.2.2, (hok q hq).bytes⟩) hle W h hS)
  obtain ⟨b, hbb⟩ : ∃ x, logV rs = x := ⟨_, rfl⟩
  have hLm : lenL rs rs.length = b.length := by unfold lenL; rw [List.take_length, hbb]
  have h8m : 8 ≤ b.length := by rw [← hLm, lenL_eq]; omega
  have C0 := Lib.hid (fun i (h : i + 1 < rs.length) => chain_out hok hle h)
  have C1 := Lib.hid (fun i k (h : i < k) (hk : k < rs.length) z => chain_turned hok hle h hk z)
  have C2 := Lib.hid (fun i k (h : i < rs.length) (hk : k < rs.length) => chain_twice hok hle h hk)
  rw [hbb] at hlog hbt BYT C0 C1 C2
  have RD := Lib.hid (fun W A' (d : List Nat) c' (hw : Within w W) (hd : Bytes d) (hl : d.length ≤ 140737488355328) (hc' : d.length ≤ c') (hs : SlAt W A' (u8v d)) => Read_any A' c' d hd hl hc' W (hT.of hw) hs)
  obtain ⟨m, hm⟩ : ∃ m, b.length = m := ⟨_, rfl⟩
  rw [hm] at hLm
  obtain ⟨rn, hrn⟩ : ∃ x, rs.length = x := ⟨_, rfl⟩
  rw [hrn] at hle hLm C0 C1 C2
  have hmb : m ≤ 8796093022208 := by omega
  have h8m : 8 ≤ m := by omega
  have HM := Lib.hid hm; have HRN := Lib.hid hrn; have HLM := Lib.hid hLm; have HBT := Lib.hid hbt; clear hm hrn hLm hby hok hlog hbt hrs hbb hT hrc hz
  go_enter Tryd.func7, Tryd.ntmps7
  go_wp2_with fail
  refine LG.out.mono ?_; rintro e1 w1 ⟨xb, rfl, hX, h1⟩
  clear LG
  go_wp2_with fail
  refine (AW.out w1 h1).mono ?_; rintro e2 w2 ⟨rfl, h2⟩
  have hX2 := hX.of h2
  have hx2 := h1.trans h2
  have hz2 : w1.heap.size ≤ w2.heap.size := h2.size
  clear AW hX h1 h2
  go_wp2_with fail
  refine (BYT.out w2 _ xb hX2).mono ?_; rintro e3 w3 ⟨v3, rfl, hO3, h3⟩
  obtain ⟨g, c3, rfl, hc3, hg2, hg3, hrow⟩ := hO3.row (by rw [HM.out]; omega)
  rw [HM.out] at hc3 ⊢
  have hX3 := hX2.of h3
  have hx3 := hx2.trans h3
  have hz3 := Nat.le_trans hz2 h3.size
  clear BYT hO3
  go_wp2_with fail
  refine (EN.out w3 _ xb hX3 (fun j hj => Nat.lt_of_lt_of_le hj.2 hz3)).mono ?_; rintro e4 w4 ⟨v4, rfl, hE4, h4⟩
  obtain ⟨ad, c4, rfl, hc4, hea, had3⟩ := hE4.ends'
  rw [HRN.out] at hc4 ⊢
  have hrow4 := hrow.of h4 hg3
  have hg4 := Nat.lt_of_lt_of_le hg3 h4.size
  obtain ⟨_, e0, hadb, hxm⟩ := hea.all rn (by rw [HRN.out]; exact Nat.le_refl _)
  obtain rfl := Option.some.inj e0
  rw [HLM.out] at hxm
  clear e0
  have n1 : (rn : Int) + 1 - 1 = (rn : Int) := by omega
  have n2 : (0 : Int) ≤ (rn : Int) := by omega
  have n3 : (rn : Int) < (rn : Int) + 1 := by omega
  have n4 : rn < rn + 1 := by omega
  have HX4 := Lib.hid (hx3.trans h4); have HEA := Lib.hid hea; have HRW := Lib.hid hrow4
  clear hx3 h4 hea hrow4 hrow hX3 hX2 hx2 h3 hz2 hz3 hE4 EN had3 hg2 hg3
  by_cases hn2 : rn < 2
  · have d2 : decide ((rn : Int) < 2) = true := decide_eq_true (by omega)
    go_wp2
    go_ret
    exact ⟨rfl, HX4.out⟩
  have d2 : decide ((rn : Int) < 2) = false := decide_eq_false (by omega)
  obtain ⟨i, hi, hir, hi1, hi2⟩ := round_len ci rn (by omega) (by omega)
  obtain ⟨k, hk, hkr, hk1, hk2⟩ := round_len ck rn (by omega) (by omega)
  have z00 : ¬ rn = 0 := by omega
  have z0 : ((rn : Int) == 0) = false := by rw [beq_eq_false_iff_ne]; omega
  have wi : IntKind.i64.wrap (ci.tmod (rn : Int) + (rn : Int)) = ci.tmod (rn : Int) + (rn : Int) := by rw [IntKind.wrap_i64]; omega
  have wk : IntKind.i64.wrap (ck.tmod (rn : Int) + (rn : Int)) = ck.tmod (rn : Int) + (rn : Int) := by rw [IntKind.wrap_i64]; omega
  obtain ⟨z, hz3, hzr, hz1, hz2⟩ : ∃ z : Nat, z < 3 ∧ (cw.tmod 3 + 3).tmod 3 = (z : Int) ∧ -3 < cw.tmod 3 ∧ cw.tmod 3 < 3 := round_len cw 3 (by decide) (by decide)
  have wz : IntKind.i64.wrap (cw.tmod 3 + 3) = cw.tmod 3 + 3 := by rw [IntKind.wrap_i64]; omega
  go_wp2_with fail
  refine wp_region_schG (fun W => g < W.heap.size ∧ W = w4) 15 (.firm 0 (.firm 1 (.firm 2 (.firm 3 (.firm 4 (.firm 5 (.firm 6 (.firm 7 (.firm 8 (.firm 9 (.firm 10 (.firm 11 (.firm 12 (.firm 13 (.firm 14 (.one 15 .nil)))))))))))))))) (by kernel_rfl) (by kernel_rfl) ⟨hg4, rfl⟩ ?_
  rintro w0 ⟨hg4, rfl⟩
  try simp only [Act.put, List.setIfInBounds_toArray, List.set_cons_zero, List.set_cons_succ]
  iterate 15
    apply sch_firm rfl rfl (by repeat (first | with_reducible exact Within.refl _ | with_reducible assumption | with_reducible refine Within.alloc ?_ _ | with_reducible refine Within.drew ?_ | with_reducible refine Within.drewN ?_ _ | with_reducible refine Within.setCell ?_ (by first | (simp; done) | (simp; omega)) _ | with_reducible refine Within.trans ?_ (by assumption)))
    · intro wq hq
      have hcq := hq.cells
      clear hq
      go_simp
      rfl
    try simp only [Act.put, List.setIfInBounds_toArray, List.set_cons_zero, List.set_cons_succ]
  refine sch_one rfl rfl (fun K hK => ?_)
  go_simp
  refine hK _ _ (fun h => absurd h (by decide)) ?_
  clear hK K
  try simp only [Act.put, List.setIfInBounds_toArray, List.set_cons_zero, List.set_cons_succ]
  refine sch_nil ?_
  rcases (by omega : z = 0 ∨ z = 1 ∨ z = 2) with rfl | rfl | rfl
  · have hzr : (cw.tmod 3 + 3).tmod 3 = 0 := hzr
    obtain ⟨t, ht⟩ : ∃ t : Nat, t = i % (rn - 1) := ⟨_, rfl⟩
    have htl : t < rn - 1 := by rw [ht]; exact Nat.mod_lt _ (by omega)
    have hit : (i : Int).tmod ((rn : Int) - 1) = (t : Int) := by rw [show (rn : Int) - 1 = ((rn - 1 : Nat) : Int) by omega, ht]; rfl
    clear ht
    have y0 : ((rn : Int) - 1 == 0) = false := by rw [beq_eq_false_iff_ne]; omega
    have y00 : ¬ (rn : Int) - 1 = 0 := by omega
    have wr : IntKind.i64.wrap ((rn : Int) - 1) = (rn : Int) - 1 := by rw [IntKind.wrap_i64]; omega
    have wt : IntKind.i64.wrap ((t : Int) + 1) = (t : Int) + 1 := by rw [IntKind.wrap_i64]; omega
    obtain ⟨_, e1, _, hcx⟩ := HEA.out.all (t) (by rw [HRN.out]; omega)
    obtain rfl := Option.some.inj e1
    obtain ⟨qa, hqa⟩ : ∃ q, lenL rs (t) = q := ⟨_, rfl⟩
    rw [hqa] at hcx
    have cca := hcx
    have hlea := lenL_mono (rs := rs) (show t ≤ rn by omega)
    rw [HLM.out, hqa] at hlea
    clear e1 hcx
    obtain ⟨_, e1, _, hcx⟩ := HEA.out.all (t + 1) (by rw [HRN.out]; omega)
    obtain rfl := Option.some.inj e1
    obtain ⟨qb, hqb⟩ : ∃ q, lenL rs (t + 1) = q := ⟨_, rfl⟩
    rw [hqb] at hcx
    have ccb := hcx
    have hleb := lenL_mono (rs := rs) (show t + 1 ≤ rn by omega)
    rw [HLM.out, hqb] at hleb
    clear e1 hcx
    rw [add_plain' _ (by omega)] at ccb
    have t1 : (t : Int) < (rn : Int) + 1 := by omega
    have t2 : (t : Int) + 1 < (rn : Int) + 1 := by omega
    have t3 : (0 : Int) ≤ (t : Int) := by omega
    have t4 : (0 : Int) ≤ (t : Int) + 1 := by omega
    have t5 : (qa : Int) ≤ (c3 : Int) := by omega
    have t6 : (qb : Int) ≤ (m : Int) := by omega
    have hA := HRW.out.at hg4
    have HA := Lib.hid hA; clear hA
    have ct := C0.out t (by omega)
    rw [hqa, hqb] at ct
    have CT := Lib.hid ct; clear ct hqa hqb
    go_wp2_with fail
    refine wp_region_schG (fun W => W.cell? (ad.add t) = some (.int .i64 (qa : Int)) ∧ W.cell? ⟨ad.block, ad.off + (t + 1), none⟩ = some (.int .i64 (qb : Int)) ∧ ad.block < W.heap.size ∧ g < W.heap.size ∧ SlAt W (some ⟨g, 0, none⟩) (u8v b) ∧ Within w W) 16 (.firm 0 (.firm 1 (.firm 2 (.firm 3 (.firm 4 (.firm 5 (.firm 6 (.firm 8 (.firm 9 (.firm 10 (.firm 11 (.firm 12 (.firm 13 (.firm 14 (.one 7 (.one 15 (.one 16 .nil))))))))))))))))) (by kernel_rfl) (by kernel_rfl) ⟨cca, ccb, hadb, hg4, HA.out.of ((Within.refl _).drew), HX4.out.drew⟩ ?_
    rintro w0 ⟨cca, ccb, hadb, hg4, hsl, hx4⟩
    try simp only [Act.put, List.setIfInBounds_toArray, List.set_cons_zero, List.set_cons_succ]
    iterate 14
      apply sch_firm rfl rfl (by repeat (first | with_reducible exact Within.refl _ | with_reducible assumption | with_reducible refine Within.alloc ?_ _ | with_reducible refine Within.drew ?_ | with_reducible refine Within.drewN ?_ _ | with_reducible refine Within.setCell ?_ (by first | (simp; done) | (simp; omega)) _ | with_reducible refine Within.trans ?_ (by assumption)))
      · intro wq hq
        have hcq := hq.cells
        have gx := (hq.cell (p := ad.add t) (by rw [add_block]; exact hadb)).trans cca
        have gy := (hq.cell (p := ⟨ad.block, ad.off + (t + 1), none⟩) hadb).trans ccb
        clear hq
        go_simp
        rfl
      try simp only [Act.put, List.setIfInBounds_toArray, List.set_cons_zero, List.set_cons_succ]
    refine sch_one rfl rfl (fun K hK => ?_)
    have hal : (b.take qa).length = qa := by rw [List.length_take, HM.out]; omega
    obtain ⟨v5, w5, hrun5, hO5, hB5⟩ := run_app_u8 w0.drew w0.heap.size (.slice none 0 0) [] (b.take qa) (OwnB.nil_ _ _) (some ⟨g, 0, none⟩) c3 (by have h := (hsl.of ((Within.refl w0).drew)).take qa; unfold u8v at h ⊢; rwa [← List.map_take] at h) (by rw [List.length_nil, hal]; omega) (Nat.le_refl _)
    rw [List.nil_append] at hO5
    rw [hal] at hrun5
    have hX5 : Within w0 w5 := Below.trans ((Within.refl w0).drew) hB5
    have RUN5 := Lib.hid hrun5; have HO5 := Lib.hid hO5; have HAL := Lib.hid hal; clear hrun5 hO5 hB5 hal
    refine op_append_run (.tmp 93) (.tmp 99) 22 rfl _ _ rfl rfl RUN5.out ?_
    refine hK _ _ (fun _ => (by repeat (first | with_reducible exact Within.refl _ | with_reducible assumption | with_reducible refine Within.alloc ?_ _ | with_reducible refine Within.drew ?_ | with_reducible refine Within.drewN ?_ _ | with_reducible refine Within.setCell ?_ (by first | (simp; done) | (simp; omega)) _ | with_reducible refine Within.trans ?_ (by assumption)))) ?_
    clear hK K
    try simp only [Act.put, List.setIfInBounds_toArray, List.set_cons_zero, List.set_cons_succ]
    refine sch_one rfl rfl (fun K hK => ?_)
    have hdl : (b.drop qb).length = m - qb := by rw [List.length_drop, HM.out]
    have hsl6 : SlAt w5 (if c3 = qb then some ⟨g, 0, none⟩ else some ⟨g, qb, none⟩) (u8v (b.drop qb)) := by
                split
                · rename_i h
                  rw [List.drop_eq_nil_of_le (by rw [HM.out]; omega)]; exact SlAt.nil
                · have h := (hsl.of hX5).drop qb
                  rw [add_at] at h
                  unfold u8v at h ⊢
                  rwa [← List.map_drop] at h
    obtain ⟨v6, w6, hrun6, hO6, hB6⟩ := run_app_u8 w5 w0.heap.size v5 (b.take qa) (b.drop qb) HO5.out _ (c3 - qb) hsl6 (by rw [HAL.out, hdl]; omega) hX5.size
    rw [hdl] at hrun6
    have hd6 : (b.take qa ++ b.drop qb).length ≤ 140737488355328 := by rw [List.length_append, HAL.out, hdl]; omega
    have hby6 : Bytes (b.take qa ++ b.drop qb) := (HBT.out.take qa).append (HBT.out.drop qb)
    obtain ⟨d, hd⟩ : ∃ d, b.take qa ++ b.drop qb = d := ⟨_, rfl⟩
    rw [hd] at hO6 hd6 hby6
    have ct := CT.out
    rw [hd] at ct
    have hX6 : Within w0 w6 := Below.trans hX5 hB6
    have RUN6 := Lib.hid hrun6; have HO6 := Lib.hid hO6; have CT6 := Lib.hid ct; have HB6 := Lib.hid hby6; clear hrun6 hO6 hB6 hdl hsl6 hd ct hby6
    refine op_append_run (.tmp 100) (.tmp 107) 22 rfl _ _ rfl rfl RUN6.out ?_
    obtain ⟨A6, c6, rfl, hc6, hs6, _⟩ := HO6.out.form
    have RD6 := Lib.hid (RD.out w6 A6 d c6 (hx4.trans hX6) HB6.out hd6 hc6 hs6)
    have HX6 := Lib.hid (hx4.trans hX6)
    clear hc6 hs6
    refine hK _ _ (fun _ => (by repeat (first | with_reducible exact Within.refl _ | with_reducible assumption | with_reducible refine Within.alloc ?_ _ | with_reducible refine Within.drew ?_ | with_reducible refine Within.drewN ?_ _ | with_reducible refine Within.setCell ?_ (by first | (simp; done) | (simp; omega)) _ | with_reducible refine Within.trans ?_ (by assumption)))) ?_
    clear hK K
    try simp only [Act.put, List.setIfInBounds_toArray, List.set_cons_zero, List.set_cons_succ]
    refine sch_one rfl rfl (fun K hK => ?_)
    go_simp
    refine hK _ _ (fun h => absurd h (by decide)) ?_
    clear hK K
    try simp only [Act.put, List.setIfInBounds_toArray, List.set_cons_zero, List.set_cons_succ]
    refine sch_nil ?_
    go_wp2_with fail
    all_goals
      refine RD6.out.mono ?_; rintro e7 w7 ⟨lv7, rfl, hL7, h7⟩
      obtain ⟨A7, c7, rfl, _, _⟩ := RecsO.same' hL7
      have HX7 := Lib.hid (HX6.out.trans h7)
      obtain ⟨y, hy⟩ : ∃ y, (logRead d).2.1 = y := ⟨_, rfl⟩
      have hy0 := CT6.out
      rw [hy] at hy0
      rw [hy]
      have fy : ((y : Int) != 0) = true := by rw [bne_iff_ne]; omega
      clear h7 hL7
      go_wp2
      go_ret
      exact ⟨rfl, HX7.out.alloc _⟩
  · have hzr : (cw.tmod 3 + 3).tmod 3 = 1 := hzr
    rcases Nat.lt_trichotomy i k with hik | hik | hik
    · have f1 : ((i : Int) == (k : Int)) = false := by rw [beq_eq_false_iff_ne]; omega
      have f2 : decide ((i : Int) > (k : Int)) = false := decide_eq_false (by omega)
      have f3 : ¬ i = k := by omega
      have f4 : ¬ k < i := by omega
      obtain ⟨_, e1, _, hcx⟩ := HEA.out.all (i) (by rw [HRN.out]; omega)
      obtain rfl := Option.some.inj e1
      obtain ⟨qa, hqa⟩ : ∃ q, lenL rs (i) = q := ⟨_, rfl⟩
      rw [hqa] at hcx
      have cca := hcx
      have hlea := lenL_mono (rs := rs) (show i ≤ rn by omega)
      rw [HLM.out, hqa] at hlea
      clear e1 hcx
      obtain ⟨_, e1, _, hcx⟩ := HEA.out.all (i + 1) (by rw [HRN.out]; omega)
      obtain rfl := Option.some.inj e1
      obtain ⟨qb, hqb⟩ : ∃ q, lenL rs (i + 1) = q := ⟨_, rfl⟩
      rw [hqb] at hcx
      have ccb := hcx
      have hleb := lenL_mono (rs := rs) (show i + 1 ≤ rn by omega)
      rw [HLM.out, hqb] at hleb
      clear e1 hcx
      rw [add_plain' _ (by omega)] at ccb
      obtain ⟨_, e1, _, hcx⟩ := HEA.out.all (k) (by rw [HRN.out]; omega)
      obtain rfl := Option.some.inj e1
      obtain ⟨qc, hqc⟩ : ∃ q, lenL rs (k) = q := ⟨_, rfl⟩
      rw [hqc] at hcx
      have ccc := hcx
      have hlec := lenL_mono (rs := rs) (show k ≤ rn by omega)
      rw [HLM.out, hqc] at hlec
      clear e1 hcx
      obtain ⟨_, e1, _, hcx⟩ := HEA.out.all (k + 1) (by rw [HRN.out]; omega)
      obtain rfl := Option.some.inj e1
      obtain ⟨qd, hqd⟩ : ∃ q, lenL rs (k + 1) = q := ⟨_, rfl⟩
      rw [hqd] at hcx
      have ccd := hcx
      have hled := lenL_mono (rs := rs) (show k + 1 ≤ rn by omega)
      rw [HLM.out, hqd] at hled
      clear e1 hcx
      rw [add_plain' _ (by omega)] at ccd
      have ti1 : (i : Int) < (rn : Int) + 1 := by omega
      have ti2 : (i : Int) + 1 < (rn : Int) + 1 := by omega
      have ti3 : (0 : Int) ≤ (i : Int) := by omega
      have ti4 : (0 : Int) ≤ (i : Int) + 1 := by omega
      have ti5 : IntKind.i64.wrap ((i : Int) + 1) = (i : Int) + 1 := by rw [IntKind.wrap_i64]; omega
      have tk1 : (k : Int) < (rn : Int) + 1 := by omega
      have tk2 : (k : Int) + 1 < (rn : Int) + 1 := by omega
      have tk3 : (0 : Int) ≤ (k : Int) := by omega
      have tk4 : (0 : Int) ≤ (k : Int) + 1 := by omega
      have tk5 : IntKind.i64.wrap ((k : Int) + 1) = (k : Int) + 1 := by rw [IntKind.wrap_i64]; omega
      have hab := lenL_mono (rs := rs) (show i ≤ i + 1 by omega)
      rw [hqa, hqb] at hab
      have hbc := lenL_mono (rs := rs) (show i + 1 ≤ k by omega)
      rw [hqb, hqc] at hbc
      have hcd := lenL_mono (rs := rs) (show k ≤ k + 1 by omega)
      rw [hqc, hqd] at hcd
      have u1 : (qa : Int) ≤ (qb : Int) := by omega
      have u2 : (qb : Int) ≤ (qc : Int) := by omega
      have u3 : (qc : Int) ≤ (qd : Int) := by omega
      have u4 : (qd : Int) ≤ (m : Int) := by omega
      have u5 : (qa : Int) ≤ (c3 : Int) := by omega
      have u6 : (qb : Int) ≤ (c3 : Int) := by omega
      have u7 : (qc : Int) ≤ (c3 : Int) := by omega
      have u8 : (qd : Int) ≤ (c3 : Int) := by omega
      have hA := HRW.out.at hg4
      have HA := Lib.hid hA; clear hA
      have ct := C1.out i k (by omega) (by omega) ((b.drop qb).take (qc - qb) ++ ((b.drop qa).take (qb - qa) ++ b.drop qd))
      rw [hqa, hqc, hqd] at ct
      have CT := Lib.hid ct; clear ct hqa hqb hqc hqd
      go_wp2_with fail
      refine wp_region_schG (fun W => W.cell? (ad.add i) = some (.int .i64 (qa : Int)) ∧ W.cell? ⟨ad.block, ad.off + (i + 1), none⟩ = some (.int .i64 (qb : Int)) ∧ W.cell? (ad.add k) = some (.int .i64 (qc : Int)) ∧ W.cell? ⟨ad.block, ad.off + (k + 1), none⟩ = some (.int .i64 (qd : Int)) ∧ ad.block < W.heap.size ∧ g < W.heap.size ∧ SlAt W (some ⟨g, 0, none⟩) (u8v b) ∧ Within w W) 52 (.firm 0 (.firm 1 (.firm 2 (.firm 3 (.firm 4 (.firm 5 (.firm 6 (.firm 8 (.firm 9 (.firm 10 (.firm 11 (.firm 12 (.firm 13 (.firm 14 (.firm 15 (.firm 16 (.firm 17 (.firm 18 (.firm 20 (.firm 21 (.firm 22 (.firm 23 (.firm 24 (.firm 25 (.firm 26 (.firm 27 (.firm 28 (.firm 29 (.firm 30 (.firm 32 (.firm 33 (.firm 34 (.firm 35 (.firm 36 (.firm 37 (.firm 38 (.firm 39 (.firm 40 (.firm 41 (.firm 42 (.firm 44 (.firm 45 (.firm 46 (.firm 47 (.firm 48 (.firm 49 (.firm 50 (.one 7 (.one 19 (.one 31 (.one 43 (.one 51 (.one 52 .nil))))))))))))))))))))))))))))))))))))))))))))))))))))) (by kernel_rfl) (by kernel_rfl) ⟨cca, ccb, ccc, ccd, hadb, hg4, HA.out.of ((Within.refl _).drew), HX4.out.drew⟩ ?_
      rintro w0 ⟨cca, ccb, ccc, ccd, hadb, hg4, hsl, hx4⟩
      try simp only [Act.put, List.setIfInBounds_toArray, List.set_cons_zero, List.set_cons_succ]
      iterate 47
        apply sch_firm rfl rfl (by repeat (first | with_reducible exact Within.refl _ | with_reducible assumption | with_reducible refine Within.alloc ?_ _ | with_reducible refine Within.drew ?_ | with_reducible refine Within.drewN ?_ _ | with_reducible refine Within.setCell ?_ (by first | (simp; done) | (simp; omega)) _ | with_reducible refine Within.trans ?_ (by assumption)))
        · intro wq hq
          have hcq := hq.cells
          have gx := (hq.cell (p := ad.add i) (by rw [add_block]; exact hadb)).trans cca
          have gy := (hq.cell (p := ⟨ad.block, ad.off + (i + 1), none⟩) hadb).trans ccb
          have gz := (hq.cell (p := ad.add k) (by rw [add_block]; exact hadb)).trans ccc
          have gw := (hq.cell (p := ⟨ad.block, ad.off + (k + 1), none⟩) hadb).trans ccd
          clear hq
          go_simp
          rfl
        try simp only [Act.put, List.setIfInBounds_toArray, List.set_cons_zero, List.set_cons_succ]
      refine sch_one rfl rfl (fun K hK => ?_)
      have hsn : (b.take qa).length = qa := by simp only [List.length_take, List.length_drop, HM.out] <;> omega
      have hss : SlAt w0.drew (some ⟨g, 0, none⟩) (u8v (b.take qa)) := by have h := (hsl.of ((Within.refl w0).drew)).take qa; unfold u8v at h ⊢; rwa [← List.map_take] at h
      obtain ⟨v21, w21, hrun, hO, hB⟩ := run_app_u8 w0.drew w0.heap.size (.slice none 0 0) [] (b.take qa) (OwnB.nil_ _ _) (some ⟨g, 0, none⟩) (c3) hss (by rw [List.length_nil];  rw [hsn]; omega) (Nat.le_refl _)
      rw [List.nil_append] at hO
      rw [hsn] at hrun
      have hlen : (b.take qa).length ≤ 0 + m := by  rw [hsn]; omega
      have hbyt : Bytes (b.take qa) := HBT.out.take _
      obtain ⟨l21, hl⟩ : ∃ l, b.take qa = l := ⟨_, rfl⟩
      rw [hl] at hO hlen hbyt
      have hX : Within w0 w21 := Below.trans ((Within.refl w0).drew) hB
      have hlen : l21.length ≤ 1 * m := by omega
      have RUN21 := Lib.hid hrun; have HO21 := Lib.hid hO; have HL21 := Lib.hid hl; have HN21 := Lib.hid hlen; have HBY21 := Lib.hid hbyt; have HX21 := Lib.hid hX; have hX21 := hX; clear hrun hO hB hl hlen hbyt hX hsn hss
      refine op_append_run (.tmp 119) (.tmp 125) 22 rfl _ _ rfl rfl RUN21.out ?_
      obtain ⟨A21, k21, rfl, hk21, hs21, _⟩ := HO21.out.form
      clear hk21 hs21
      refine hK _ _ (fun _ => (by repeat (first | with_reducible exact Within.refl _ | with_reducible assumption | with_reducible refine Within.alloc ?_ _ | with_reducible refine Within.drew ?_ | with_reducible refine Within.drewN ?_ _ | with_reducible refine Within.setCell ?_ (by first | (simp; done) | (simp; omega)) _ | with_reducible refine Within.trans ?_ (by assumption)))) ?_
      clear hK K
      try simp only [Act.put, List.setIfInBounds_toArray, List.set_cons_zero, List.set_cons_succ]
      refine sch_one rfl rfl (fun K hK => ?_)
      have hsn : ((b.drop qc).take (qd - qc)).length = qd - qc := by simp only [List.length_take, List.length_drop, HM.out] <;> omega
      have hss : SlAt w21 (if c3 = qc then some ⟨g, 0, none⟩ else some ⟨g, qc, none⟩) (u8v (b.drop qc)) := by
                split
                · rename_i h
                  rw [List.drop_eq_nil_of_le (by rw [HM.out]; omega)]; exact SlAt.nil
                · have h := (hsl.of HX21.out).drop qc
                  rw [add_at] at h
                  unfold u8v at h ⊢
                  rwa [← List.map_drop] at h
      have hss : SlAt w21 (if c3 = qc then some ⟨g, 0, none⟩ else some ⟨g, qc, none⟩) (u8v ((b.drop qc).take (qd - qc))) := by have h := hss.take (qd - qc); unfold u8v at h ⊢; rwa [← List.map_take] at h
      obtain ⟨v22, w22, hrun, hO, hB⟩ := run_app_u8 w21 w0.heap.size (.slice A21 l21.length k21) l21 ((b.drop qc).take (qd - qc)) HO21.out (if c3 = qc then some ⟨g, 0, none⟩ else some ⟨g, qc, none⟩) (c3 - qc) hss (by have := HN21.out;  rw [hsn]; omega) HX21.out.size
      rw [hsn] at hrun
      have hlen : (l21 ++ (b.drop qc).take (qd - qc)).length ≤ 1 * m + m := by rw [List.length_append]; have := HN21.out; rw [hsn]; omega
      have hbyt : Bytes (l21 ++ (b.drop qc).take (qd - qc)) := HBY21.out.append ((HBT.out.drop _).take _)
      obtain ⟨l22, hl⟩ : ∃ l, l21 ++ (b.drop qc).take (qd - qc) = l := ⟨_, rfl⟩
      rw [hl] at hO hlen hbyt
      have hX : Within w0 w22 := Below.trans HX21.out hB
      have hlen : l22.length ≤ 2 * m := by omega
      have RUN22 := Lib.hid hrun; have HO22 := Lib.hid hO; have HL22 := Lib.hid hl; have HN22 := Lib.hid hlen; have HBY22 := Lib.hid hbyt; have HX22 := Lib.hid hX; have hX22 := hX; clear hrun hO hB hl hlen hbyt hX hsn hss
      refine op_append_run (.tmp 126) (.tmp 137) 22 rfl _ _ rfl rfl RUN22.out ?_
      obtain ⟨A22, k22, rfl, hk22, hs22, _⟩ := HO22.out.form
      clear hk22 hs22
      refine hK _ _ (fun _ => (by repeat (first | with_reducible exact Within.refl _ | with_reducible assumption | with_reducible refine Within.alloc ?_ _ | with_reducible refine Within.drew ?_ | with_reducible refine Within.drewN ?_ _ | with_reducible refine Within.setCell ?_ (by first | (simp; done) | (simp; omega)) _ | with_reducible refine Within.trans ?_ (by assumption)))) ?_
      clear hK K
      try simp only [Act.put, List.setIfInBounds_toArray, List.set_cons_zero, List.set_cons_succ]
      refine sch_one rfl rfl (fun K hK => ?_)
      have hsn : ((b.drop qb).take (qc - qb)).length = qc - qb := by simp only [List.length_take, List.length_drop, HM.out] <;> omega
      have hss : SlAt w22 (if c3 = qb then some ⟨g, 0, none⟩ else some ⟨g, qb, none⟩) (u8v (b.drop qb)) := by
                split
                · rename_i h
                  rw [List.drop_eq_nil_of_le (by rw [HM.out]; omega)]; exact SlAt.nil
                · have h := (hsl.of HX22.out).drop qb
                  rw [add_at] at h
                  unfold u8v at h ⊢
                  rwa [← List.map_drop] at h
      have hss : SlAt w22 (if c3 = qb then some ⟨g, 0, none⟩ else some ⟨g, qb, none⟩) (u8v ((b.drop qb).take (qc - qb))) := by have h := hss.take (qc - qb); unfold u8v at h ⊢; rwa [← List.map_take] at h
      obtain ⟨v23, w23, hrun, hO, hB⟩ := run_app_u8 w22 w0.heap.size (.slice A22 l22.length k22) l22 ((b.drop qb).take (qc - qb)) HO22.out (if c3 = qb then some ⟨g, 0, none⟩ else some ⟨g, qb, none⟩) (c3 - qb) hss (by have := HN22.out;  rw [hsn]; omega) HX22.out.size
      rw [hsn] at hrun
      have hlen : (l22 ++ (b.drop qb).take (qc - qb)).length ≤ 2 * m + m := by rw [List.length_append]; have := HN22.out; rw [hsn]; omega
      have hbyt : Bytes (l22 ++ (b.drop qb).take (qc - qb)) := HBY22.out.append ((HBT.out.drop _).take _)
      obtain ⟨l23, hl⟩ : ∃ l, l22 ++ (b.drop qb).take (qc - qb) = l := ⟨_, rfl⟩
      rw [hl] at hO hlen hbyt
      have hX : Within w0 w23 := Below.trans HX22.out hB
      have hlen : l23.length ≤ 3 * m := by omega
      have RUN23 := Lib.hid hrun; have HO23 := Lib.hid hO; have HL23 := Lib.hid hl; have HN23 := Lib.hid hlen; have HBY23 := Lib.hid hbyt; have HX23 := Lib.hid hX; have hX23 := hX; clear hrun hO hB hl hlen hbyt hX hsn hss
      refine op_append_run (.tmp 138) (.tmp 149) 22 rfl _ _ rfl rfl RUN23.out ?_
      obtain ⟨A23, k23, rfl, hk23, hs23, _⟩ := HO23.out.form
      clear hk23 hs23
      refine hK _ _ (fun _ => (by repeat (first | with_reducible exact Within.refl _ | with_reducible assumption | with_reducible refine Within.alloc ?_ _ | with_reducible refine Within.drew ?_ | with_reducible refine Within.drewN ?_ _ | with_reducible refine Within.setCell ?_ (by first | (simp; done) | (simp; omega)) _ | with_reducible refine Within.trans ?_ (by assumption)))) ?_
      clear hK K
      try simp only [Act.put, List.setIfInBounds_toArray, List.set_cons_zero, List.set_cons_succ]
      refine sch_one rfl rfl (fun K hK => ?_)
      have hsn : ((b.drop qa).take (qb - qa)).length = qb - qa := by simp only [List.length_take, List.length_drop, HM.out] <;> omega
      have hss : SlAt w23 (if c3 = qa then some ⟨g, 0, none⟩ else some ⟨g, qa, none⟩) (u8v (b.drop qa)) := by
                split
                · rename_i h
                  rw [List.drop_eq_nil_of_le (by rw [HM.out]; omega)]; exact SlAt.nil
                · have h := (hsl.of HX23.out).drop qa
                  rw [add_at] at h
                  unfold u8v at h ⊢
                  rwa [← List.map_drop] at h
      have hss : SlAt w23 (if c3 = qa then some ⟨g, 0, none⟩ else some ⟨g, qa, none⟩) (u8v ((b.drop qa).take (qb - qa))) := by have h := hss.take (qb - qa); unfold u8v at h ⊢; rwa [← List.map_take] at h
      obtain ⟨v24, w24, hrun, hO, hB⟩ := run_app_u8 w23 w0.heap.size (.slice A23 l23.length k23) l23 ((b.drop qa).take (qb - qa)) HO23.out (if c3 = qa then some ⟨g, 0, none⟩ else some ⟨g, qa, none⟩) (c3 - qa) hss (by have := HN23.out;  rw [hsn]; omega) HX23.out.size
      rw [hsn] at hrun
      have hlen : (l23 ++ (b.drop qa).take (qb - qa)).length ≤ 3 * m + m := by rw [List.length_append]; have := HN23.out; rw [hsn]; omega
      have hbyt : Bytes (l23 ++ (b.drop qa).take (qb - qa)) := HBY23.out.append ((HBT.out.drop _).take _)
      obtain ⟨l24, hl⟩ : ∃ l, l23 ++ (b.drop qa).take (qb - qa) = l := ⟨_, rfl⟩
      rw [hl] at hO hlen hbyt
      have hX : Within w0 w24 := Below.trans HX23.out hB
      have hlen : l24.length ≤ 4 * m := by omega
      have RUN24 := Lib.hid hrun; have HO24 := Lib.hid hO; have HL24 := Lib.hid hl; have HN24 := Lib.hid hlen; have HBY24 := Lib.hid hbyt; have HX24 := Lib.hid hX; have hX24 := hX; clear hrun hO hB hl hlen hbyt hX hsn hss
      refine op_append_run (.tmp 150) (.tmp 161) 22 rfl _ _ rfl rfl RUN24.out ?_
      obtain ⟨A24, k24, rfl, hk24, hs24, _⟩ := HO24.out.form
      clear hk24 hs24
      refine hK _ _ (fun _ => (by repeat (first | with_reducible exact Within.refl _ | with_reducible assumption | with_reducible refine Within.alloc ?_ _ | with_reducible refine Within.drew ?_ | with_reducible refine Within.drewN ?_ _ | with_reducible refine Within.setCell ?_ (by first | (simp; done) | (simp; omega)) _ | with_reducible refine Within.trans ?_ (by assumption)))) ?_
      clear hK K
      try simp only [Act.put, List.setIfInBounds_toArray, List.set_cons_zero, List.set_cons_succ]
      refine sch_one rfl rfl (fun K hK => ?_)
      have hsn : (b.drop qd).length = m - qd := by simp only [List.length_take, List.length_drop, HM.out] <;> omega
      have hss : SlAt w24 (if c3 = qd then some ⟨g, 0, none⟩ else some ⟨g, qd, none⟩) (u8v (b.drop qd)) := by
                split
                · rename_i h
                  rw [List.drop_eq_nil_of_le (by rw [HM.out]; omega)]; exact SlAt.nil
                · have h := (hsl.of HX24.out).drop qd
                  rw [add_at] at h
                  unfold u8v at h ⊢
                  rwa [← List.map_drop] at h
      obtain ⟨v25, w25, hrun, hO, hB⟩ := run_app_u8 w24 w0.heap.size (.slice A24 l24.length k24) l24 (b.drop qd) HO24.out (if c3 = qd then some ⟨g, 0, none⟩ else some ⟨g, qd, none⟩) (c3 - qd) hss (by have := HN24.out;  rw [hsn]; omega) HX24.out.size
      rw [hsn] at hrun
      have hlen : (l24 ++ b.drop qd).length ≤ 4 * m + m := by rw [List.length_append]; have := HN24.out; rw [hsn]; omega
      have hbyt : Bytes (l24 ++ b.drop qd) := HBY24.out.append (HBT.out.drop _)
      obtain ⟨l25, hl⟩ : ∃ l, l24 ++ b.drop qd = l := ⟨_, rfl⟩
      rw [hl] at hO hlen hbyt
      have hX : Within w0 w25 := Below.trans HX24.out hB
      have hlen : l25.length ≤ 5 * m := by omega
      have RUN25 := Lib.hid hrun; have HO25 := Lib.hid hO; have HL25 := Lib.hid hl; have HN25 := Lib.hid hlen; have HBY25 := Lib.hid hbyt; have HX25 := Lib.hid hX; have hX25 := hX; clear hrun hO hB hl hlen hbyt hX hsn hss
      refine op_append_run (.tmp 162) (.tmp 169) 22 rfl _ _ rfl rfl RUN25.out ?_
      obtain ⟨A25, k25, rfl, hk25, hs25, _⟩ := HO25.out.form
      have RD6 := Lib.hid (RD.out w25 A25 l25 k25 (hx4.trans HX25.out) HBY25.out (by have := HN25.out; omega) hk25 hs25)
      have HX6 := Lib.hid (hx4.trans HX25.out)
      clear hk25 hs25
      refine hK _ _ (fun _ => (by repeat (first | with_reducible exact Within.refl _ | with_reducible assumption | with_reducible refine Within.alloc ?_ _ | with_reducible refine Within.drew ?_ | with_reducible refine Within.drewN ?_ _ | with_reducible refine Within.setCell ?_ (by first | (simp; done) | (simp; omega)) _ | with_reducible refine Within.trans ?_ (by assumption)))) ?_
      clear hK K
      try simp only [Act.put, List.setIfInBounds_toArray, List.set_cons_zero, List.set_cons_succ]
      refine sch_one rfl rfl (fun K hK => ?_)
      go_simp
      refine hK _ _ (fun h => absurd h (by decide)) ?_
      clear hK K
      try simp only [Act.put, List.setIfInBounds_toArray, List.set_cons_zero, List.set_cons_succ]
      refine sch_nil ?_
      go_wp2_with fail
      all_goals
        refine RD6.out.mono ?_; rintro e7 w7 ⟨lv7, rfl, hL7, h7⟩
        obtain ⟨A7, c7, rfl, _, _⟩ := RecsO.same' hL7
        have HX7 := Lib.hid (HX6.out.trans h7)
        obtain ⟨y, hy⟩ : ∃ y, (logRead l25).2.1 = y := ⟨_, rfl⟩
        have hy0 := CT.out
        skip
        simp only [← List.append_assoc] at hy0
        rw [HL21.out, HL22.out, HL23.out, HL24.out, HL25.out] at hy0
        rw [hy] at hy0
        rw [hy]
        have fy : ((y : Int) != 0) = true := by rw [bne_iff_ne]; omega
        clear h7 hL7
        go_wp2
        go_ret
        exact ⟨rfl, HX7.out.alloc _⟩
    · subst hik
      go_wp2
      go_ret
      exact ⟨rfl, HX4.out.drew⟩
    · have f1 : ((i : Int) == (k : Int)) = false := by rw [beq_eq_false_iff_ne]; omega
      have f2 : decide ((i : Int) > (k : Int)) = true := decide_eq_true (by omega)
      have f3 : ¬ i = k := by omega
      obtain ⟨_, e1, _, hcx⟩ := HEA.out.all (k) (by rw [HRN.out]; omega)
      obtain rfl := Option.some.inj e1
      obtain ⟨qa, hqa⟩ : ∃ q, lenL rs (k) = q := ⟨_, rfl⟩
      rw [hqa] at hcx
      have cca := hcx
      have hlea := lenL_mono (rs := rs) (show k ≤ rn by omega)
      rw [HLM.out, hqa] at hlea
      clear e1 hcx
      obtain ⟨_, e1, _, hcx⟩ := HEA.out.all (k + 1) (by rw [HRN.out]; omega)
      obtain rfl := Option.some.inj e1
      obtain ⟨qb, hqb⟩ : ∃ q, lenL rs (k + 1) = q := ⟨_, rfl⟩
      rw [hqb] at hcx
      have ccb := hcx
      have hleb := lenL_mono (rs := rs) (show k + 1 ≤ rn by omega)
      rw [HLM.out, hqb] at hleb
      clear e1 hcx
      rw [add_plain' _ (by omega)] at ccb
      obtain ⟨_, e1, _, hcx⟩ := HEA.out.all (i) (by rw [HRN.out]; omega)
      obtain rfl := Option.some.inj e1
      obtain ⟨qc, hqc⟩ : ∃ q, lenL rs (i) = q := ⟨_, rfl⟩
      rw [hqc] at hcx
      have ccc := hcx
      have hlec := lenL_mono (rs := rs) (show i ≤ rn by omega)
      rw [HLM.out, hqc] at hlec
      clear e1 hcx
      obtain ⟨_, e1, _, hcx⟩ := HEA.out.all (i + 1) (by rw [HRN.out]; omega)
      obtain rfl := Option.some.inj e1
      obtain ⟨qd, hqd⟩ : ∃ q, lenL rs (i + 1) = q := ⟨_, rfl⟩
      rw [hqd] at hcx
      have ccd := hcx
      have hled := lenL_mono (rs := rs) (show i + 1 ≤ rn by omega)
      rw [HLM.out, hqd] at hled
      clear e1 hcx
      rw [add_plain' _ (by omega)] at ccd
      have ti1 : (k : Int) < (rn : Int) + 1 := by omega
      have ti2 : (k : Int) + 1 < (rn : Int) + 1 := by omega
      have ti3 : (0 : Int) ≤ (k : Int) := by omega
      have ti4 : (0 : Int) ≤ (k : Int) + 1 := by omega
      have ti5 : IntKind.i64.wrap ((k : Int) + 1) = (k : Int) + 1 := by rw [IntKind.wrap_i64]; omega
      have tk1 : (i : Int) < (rn : Int) + 1 := by omega
      have tk2 : (i : Int) + 1 < (rn : Int) + 1 := by omega
      have tk3 : (0 : Int) ≤ (i : Int) := by omega
      have tk4 : (0 : Int) ≤ (i : Int) + 1 := by omega
      have tk5 : IntKind.i64.wrap ((i : Int) + 1) = (i : Int) + 1 := by rw [IntKind.wrap_i64]; omega
      have hab := lenL_mono (rs := rs) (show k ≤ k + 1 by omega)
      rw [hqa, hqb] at hab
      have hbc := lenL_mono (rs := rs) (show k + 1 ≤ i by omega)
      rw [hqb, hqc] at hbc
      have hcd := lenL_mono (rs := rs) (show i ≤ i + 1 by omega)
      rw [hqc, hqd] at hcd
      have u1 : (qa : Int) ≤ (qb : Int) := by omega
      have u2 : (qb : Int) ≤ (qc : Int) := by omega
      have u3 : (qc : Int) ≤ (qd : Int) := by omega
      have u4 : (qd : Int) ≤ (m : Int) := by omega
      have u5 : (qa : Int) ≤ (c3 : Int) := by omega
      have u6 : (qb : Int) ≤ (c3 : Int) := by omega
      have u7 : (qc : Int) ≤ (c3 : Int) := by omega
      have u8 : (qd : Int) ≤ (c3 : Int) := by omega
      have hA := HRW.out.at hg4
      have HA := Lib.hid hA; clear hA
      have ct := C1.out k i (by omega) (by omega) ((b.drop qb).take (qc - qb) ++ ((b.drop qa).take (qb - qa) ++ b.drop qd))
      rw [hqa, hqc, hqd] at ct
      have CT := Lib.hid ct; clear ct hqa hqb hqc hqd
      go_wp2_with fail
      refine wp_region_schG (fun W => W.cell? (ad.add k) = some (.int .i64 (qa : Int)) ∧ W.cell? ⟨ad.block, ad.off + (k + 1), none⟩ = some (.int .i64 (qb : Int)) ∧ W.cell? (ad.add i) = some (.int .i64 (qc : Int)) ∧ W.cell? ⟨ad.block, ad.off + (i + 1), none⟩ = some (.int .i64 (qd : Int)) ∧ ad.block < W.heap.size ∧ g < W.heap.size ∧ SlAt W (some ⟨g, 0, none⟩) (u8v b) ∧ Within w W) 52 (.firm 0 (.firm 1 (.firm 2 (.firm 3 (.firm 4 (.firm 5 (.firm 6 (.firm 8 (.firm 9 (.firm 10 (.firm 11 (.firm 12 (.firm 13 (.firm 14 (.firm 15 (.firm 16 (.firm 17 (.firm 18 (.firm 20 (.firm 21 (.firm 22 (.firm 23 (.firm 24 (.firm 25 (.firm 26 (.firm 27 (.firm 28 (.firm 29 (.firm 30 (.firm 32 (.firm 33 (.firm 34 (.firm 35 (.firm 36 (.firm 37 (.firm 38 (.firm 39 (.firm 40 (.firm 41 (.firm 42 (.firm 44 (.firm 45 (.firm 46 (.firm 47 (.firm 48 (.firm 49 (.firm 50 (.one 7 (.one 19 (.one 31 (.one 43 (.one 51 (.one 52 .nil))))))))))))))))))))))))))))))))))))))))))))))))))))) (by kernel_rfl) (by kernel_rfl) ⟨cca, ccb, ccc, ccd, hadb, hg4, HA.out.of ((Within.refl _).drew), HX4.out.drew⟩ ?_
      rintro w0 ⟨cca, ccb, ccc, ccd, hadb, hg4, hsl, hx4⟩
      try simp only [Act.put, List.setIfInBounds_toArray, List.set_cons_zero, List.set_cons_succ]
      iterate 47
        apply sch_firm rfl rfl (by repeat (first | with_reducible exact Within.refl _ | with_reducible assumption | with_reducible refine Within.alloc ?_ _ | with_reducible refine Within.drew ?_ | with_reducible refine Within.drewN ?_ _ | with_reducible refine Within.setCell ?_ (by first | (simp; done) | (simp; omega)) _ | with_reducible refine Within.trans ?_ (by assumption)))
        · intro wq hq
          have hcq := hq.cells
          have gx := (hq.cell (p := ad.add k) (by rw [add_block]; exact hadb)).trans cca
          have gy := (hq.cell (p := ⟨ad.block, ad.off + (k + 1), none⟩) hadb).trans ccb
          have gz := (hq.cell (p := ad.add i) (by rw [add_block]; exact hadb)).trans ccc
          have gw := (hq.cell (p := ⟨ad.block, ad.off + (i + 1), none⟩) hadb).trans ccd
          clear hq
          go_simp
          rfl
        try simp only [Act.put, List.setIfInBounds_toArray, List.set_cons_zero, List.set_cons_succ]
      refine sch_one rfl rfl (fun K hK => ?_)
      have hsn : (b.take qa).length = qa := by simp only [List.length_take, List.length_drop, HM.out] <;> omega
      have hss : SlAt w0.drew (some ⟨g, 0, none⟩) (u8v (b.take qa)) := by have h := (hsl.of ((Within.refl w0).drew)).take qa; unfold u8v at h ⊢; rwa [← List.map_take] at h
      obtain ⟨v21, w21, hrun, hO, hB⟩ := run_app_u8 w0.drew w0.heap.size (.slice none 0 0) [] (b.take qa) (OwnB.nil_ _ _) (some ⟨g, 0, none⟩) (c3) hss (by rw [List.length_nil];  rw [hsn]; omega) (Nat.le_refl _)
      rw [List.nil_append] at hO
      rw [hsn] at hrun
      have hlen : (b.take qa).length ≤ 0 + m := by  rw [hsn]; omega
      have hbyt : Bytes (b.take qa) := HBT.out.take _
      obtain ⟨l21, hl⟩ : ∃ l, b.take qa = l := ⟨_, rfl⟩
      rw [hl] at hO hlen hbyt
      have hX : Within w0 w21 := Below.trans ((Within.refl w0).drew) hB
      have hlen : l21.length ≤ 1 * m := by omega
      have RUN21 := Lib.hid hrun; have HO21 := Lib.hid hO; have HL21 := Lib.hid hl; have HN21 := Lib.hid hlen; have HBY21 := Lib.hid hbyt; have HX21 := Lib.hid hX; have hX21 := hX; clear hrun hO hB hl hlen hbyt hX hsn hss
      refine op_append_run (.tmp 119) (.tmp 125) 22 rfl _ _ rfl rfl RUN21.out ?_
      obtain ⟨A21, k21, rfl, hk21, hs21, _⟩ := HO21.out.form
      clear hk21 hs21
      refine hK _ _ (fun _ => (by repeat (first | with_reducible exact Within.refl _ | with_reducible assumption | with_reducible refine Within.alloc ?_ _ | with_reducible refine Within.drew ?_ | with_reducible refine Within.drewN ?_ _ | with_reducible refine Within.setCell ?_ (by first | (simp; done) | (simp; omega)) _ | with_reducible refine Within.trans ?_ (by assumption)))) ?_
      clear hK K
      try simp only [Act.put, List.setIfInBounds_toArray, List.set_cons_zero, List.set_cons_succ]
      refine sch_one rfl rfl (fun K hK => ?_)
      have hsn : ((b.drop qc).take (qd - qc)).length = qd - qc := by simp only [List.length_take, List.length_drop, HM.out] <;> omega
      have hss : SlAt w21 (if c3 = qc then some ⟨g, 0, none⟩ else some ⟨g, qc, none⟩) (u8v (b.drop qc)) := by
                split
                · rename_i h
                  rw [List.drop_eq_nil_of_le (by rw [HM.out]; omega)]; exact SlAt.nil
                · have h := (hsl.of HX21.out).drop qc
                  rw [add_at] at h
                  unfold u8v at h ⊢
                  rwa [← List.map_drop] at h
      have hss : SlAt w21 (if c3 = qc then some ⟨g, 0, none⟩ else some ⟨g, qc, none⟩) (u8v ((b.drop qc).take (qd - qc))) := by have h := hss.take (qd - qc); unfold u8v at h ⊢; rwa [← List.map_take] at h
      obtain ⟨v22, w22, hrun, hO, hB⟩ := run_app_u8 w21 w0.heap.size (.slice A21 l21.length k21) l21 ((b.drop qc).take (qd - qc)) HO21.out (if c3 = qc then some ⟨g, 0, none⟩ else some ⟨g, qc, none⟩) (c3 - qc) hss (by have := HN21.out;  rw [hsn]; omega) HX21.out.size
      rw [hsn] at hrun
      have hlen : (l21 ++ (b.drop qc).take (qd - qc)).length ≤ 1 * m + m := by rw [List.length_append]; have := HN21.out; rw [hsn]; omega
      have hbyt : Bytes (l21 ++ (b.drop qc).take (qd - qc)) := HBY21.out.append ((HBT.out.drop _).take _)
      obtain ⟨l22, hl⟩ : ∃ l, l21 ++ (b.drop qc).take (qd - qc) = l := ⟨_, rfl⟩
      rw [hl] at hO hlen hbyt
      have hX : Within w0 w22 := Below.trans HX21.out hB
      have hlen : l22.length ≤ 2 * m := by omega
      have RUN22 := Lib.hid hrun; have HO22 := Lib.hid hO; have HL22 := Lib.hid hl; have HN22 := Lib.hid hlen; have HBY22 := Lib.hid hbyt; have HX22 := Lib.hid hX; have hX22 := hX; clear hrun hO hB hl hlen hbyt hX hsn hss
      refine op_append_run (.tmp 126) (.tmp 137) 22 rfl _ _ rfl rfl RUN22.out ?_
      obtain ⟨A22, k22, rfl, hk22, hs22, _⟩ := HO22.out.form
      clear hk22 hs22
      refine hK _ _ (fun _ => (by repeat (first | with_reducible exact Within.refl _ | with_reducible assumption | with_reducible refine Within.alloc ?_ _ | with_reducible refine Within.drew ?_ | with_reducible refine Within.drewN ?_ _ | with_reducible refine Within.setCell ?_ (by first | (simp; done) | (simp; omega)) _ | with_reducible refine Within.trans ?_ (by assumption)))) ?_
      clear hK K
      try simp only [Act.put, List.setIfInBounds_toArray, List.set_cons_zero, List.set_cons_succ]
      refine sch_one rfl rfl (fun K hK => ?_)
      have hsn : ((b.drop qb).take (qc - qb)).length = qc - qb := by simp only [List.length_take, List.length_drop, HM.out] <;> omega
      have hss : SlAt w22 (if c3 = qb then some ⟨g, 0, none⟩ else some ⟨g, qb, none⟩) (u8v (b.drop qb)) := by
                split
                · rename_i h
                  rw [List.drop_eq_nil_of_le (by rw [HM.out]; omega)]; exact SlAt.nil
                · have h := (hsl.of HX22.out).drop qb
                  rw [add_at] at h
                  unfold u8v at h ⊢
                  rwa [← List.map_drop] at h
      have hss : SlAt w22 (if c3 = qb then some ⟨g, 0, none⟩ else some ⟨g, qb, none⟩) (u8v ((b.drop qb).take (qc - qb))) := by have h := hss.take (qc - qb); unfold u8v at h ⊢; rwa [← List.map_take] at h
      obtain ⟨v23, w23, hrun, hO, hB⟩ := run_app_u8 w22 w0.heap.size (.slice A22 l22.length k22) l22 ((b.drop qb).take (qc - qb)) HO22.out (if c3 = qb then some ⟨g, 0, none⟩ else some ⟨g, qb, none⟩) (c3 - qb) hss (by have := HN22.out;  rw [hsn]; omega) HX22.out.size
      rw [hsn] at hrun
      have hlen : (l22 ++ (b.drop qb).take (qc - qb)).length ≤ 2 * m + m := by rw [List.length_append]; have := HN22.out; rw [hsn]; omega
      have hbyt : Bytes (l22 ++ (b.drop qb).take (qc - qb)) := HBY22.out.append ((HBT.out.drop _).take _)
      obtain ⟨l23, hl⟩ : ∃ l, l22 ++ (b.drop qb).take (qc - qb) = l := ⟨_, rfl⟩
      rw [hl] at hO hlen hbyt
      have hX : Within w0 w23 := Below.trans HX22.out hB
      have hlen : l23.length ≤ 3 * m := by omega
      have RUN23 := Lib.hid hrun; have HO23 := Lib.hid hO; have HL23 := Lib.hid hl; have HN23 := Lib.hid hlen; have HBY23 := Lib.hid hbyt; have HX23 := Lib.hid hX; have hX23 := hX; clear hrun hO hB hl hlen hbyt hX hsn hss
      refine op_append_run (.tmp 138) (.tmp 149) 22 rfl _ _ rfl rfl RUN23.out ?_
      obtain ⟨A23, k23, rfl, hk23, hs23, _⟩ := HO23.out.form
      clear hk23 hs23
      refine hK _ _ (fun _ => (by repeat (first | with_reducible exact Within.refl _ | with_reducible assumption | with_reducible refine Within.alloc ?_ _ | with_reducible refine Within.drew ?_ | with_reducible refine Within.drewN ?_ _ | with_reducible refine Within.setCell ?_ (by first | (simp; done) | (simp; omega)) _ | with_reducible refine Within.trans ?_ (by assumption)))) ?_
      clear hK K
      try simp only [Act.put, List.setIfInBounds_toArray, List.set_cons_zero, List.set_cons_succ]
      refine sch_one rfl rfl (fun K hK => ?_)
      have hsn : ((b.drop qa).take (qb - qa)).length = qb - qa := by simp only [List.length_take, List.length_drop, HM.out] <;> omega
      have hss : SlAt w23 (if c3 = qa then some ⟨g, 0, none⟩ else some ⟨g, qa, none⟩) (u8v (b.drop qa)) := by
                split
                · rename_i h
                  rw [List.drop_eq_nil_of_le (by rw [HM.out]; omega)]; exact SlAt.nil
                · have h := (hsl.of HX23.out).drop qa
                  rw [add_at] at h
                  unfold u8v at h ⊢
                  rwa [← List.map_drop] at h
      have hss : SlAt w23 (if c3 = qa then some ⟨g, 0, none⟩ else some ⟨g, qa, none⟩) (u8v ((b.drop qa).take (qb - qa))) := by have h := hss.take (qb - qa); unfold u8v at h ⊢; rwa [← List.map_take] at h
      obtain ⟨v24, w24, hrun, hO, hB⟩ := run_app_u8 w23 w0.heap.size (.slice A23 l23.length k23) l23 ((b.drop qa).take (qb - qa)) HO23.out (if c3 = qa then some ⟨g, 0, none⟩ else some ⟨g, qa, none⟩) (c3 - qa) hss (by have := HN23.out;  rw [hsn]; omega) HX23.out.size
      rw [hsn] at hrun
      have hlen : (l23 ++ (b.drop qa).take (qb - qa)).length ≤ 3 * m + m := by rw [List.length_append]; have := HN23.out; rw [hsn]; omega
      have hbyt : Bytes (l23 ++ (b.drop qa).take (qb - qa)) := HBY23.out.append ((HBT.out.drop _).take _)
      obtain ⟨l24, hl⟩ : ∃ l, l23 ++ (b.drop qa).take (qb - qa) = l := ⟨_, rfl⟩
      rw [hl] at hO hlen hbyt
      have hX : Within w0 w24 := Below.trans HX23.out hB
      have hlen : l24.length ≤ 4 * m := by omega
      have RUN24 := Lib.hid hrun; have HO24 := Lib.hid hO; have HL24 := Lib.hid hl; have HN24 := Lib.hid hlen; have HBY24 := Lib.hid hbyt; have HX24 := Lib.hid hX; have hX24 := hX; clear hrun hO hB hl hlen hbyt hX hsn hss
      refine op_append_run (.tmp 150) (.tmp 161) 22 rfl _ _ rfl rfl RUN24.out ?_
      obtain ⟨A24, k24, rfl, hk24, hs24, _⟩ := HO24.out.form
      clear hk24 hs24
      refine hK _ _ (fun _ => (by repeat (first | with_reducible exact Within.refl _ | with_reducible assumption | with_reducible refine Within.alloc ?_ _ | with_reducible refine Within.drew ?_ | with_reducible refine Within.drewN ?_ _ | with_reducible refine Within.setCell ?_ (by first | (simp; done) | (simp; omega)) _ | with_reducible refine Within.trans ?_ (by assumption)))) ?_
      clear hK K
      try simp only [Act.put, List.setIfInBounds_toArray, List.set_cons_zero, List.set_cons_succ]
      refine sch_one rfl rfl (fun K hK => ?_)
      have hsn : (b.drop qd).length = m - qd := by simp only [List.length_take, List.length_drop, HM.out] <;> omega
      have hss : SlAt w24 (if c3 = qd then some ⟨g, 0, none⟩ else some ⟨g, qd, none⟩) (u8v (b.drop qd)) := by
                split
                · rename_i h
                  rw [List.drop_eq_nil_of_le (by rw [HM.out]; omega)]; exact SlAt.nil
                · have h := (hsl.of HX24.out).drop qd
                  rw [add_at] at h
                  unfold u8v at h ⊢
                  rwa [← List.map_drop] at h
      obtain ⟨v25, w25, hrun, hO, hB⟩ := run_app_u8 w24 w0.heap.size (.slice A24 l24.length k24) l24 (b.drop qd) HO24.out (if c3 = qd then some ⟨g, 0, none⟩ else some ⟨g, qd, none⟩) (c3 - qd) hss (by have := HN24.out;  rw [hsn]; omega) HX24.out.size
      rw [hsn] at hrun
      have hlen : (l24 ++ b.drop qd).length ≤ 4 * m + m := by rw [List.length_append]; have := HN24.out; rw [hsn]; omega
      have hbyt : Bytes (l24 ++ b.drop qd) := HBY24.out.append (HBT.out.drop _)
      obtain ⟨l25, hl⟩ : ∃ l, l24 ++ b.drop qd = l := ⟨_, rfl⟩
      rw [hl] at hO hlen hbyt
      have hX : Within w0 w25 := Below.trans HX24.out hB
      have hlen : l25.length ≤ 5 * m := by omega
      have RUN25 := Lib.hid hrun; have HO25 := Lib.hid hO; have HL25 := Lib.hid hl; have HN25 := Lib.hid hlen; have HBY25 := Lib.hid hbyt; have HX25 := Lib.hid hX; have hX25 := hX; clear hrun hO hB hl hlen hbyt hX hsn hss
      refine op_append_run (.tmp 162) (.tmp 169) 22 rfl _ _ rfl rfl RUN25.out ?_
      obtain ⟨A25, k25, rfl, hk25, hs25, _⟩ := HO25.out.form
      have RD6 := Lib.hid (RD.out w25 A25 l25 k25 (hx4.trans HX25.out) HBY25.out (by have := HN25.out; omega) hk25 hs25)
      have HX6 := Lib.hid (hx4.trans HX25.out)
      clear hk25 hs25
      refine hK _ _ (fun _ => (by repeat (first | with_reducible exact Within.refl _ | with_reducible assumption | with_reducible refine Within.alloc ?_ _ | with_reducible refine Within.drew ?_ | with_reducible refine Within.drewN ?_ _ | with_reducible refine Within.setCell ?_ (by first | (simp; done) | (simp; omega)) _ | with_reducible refine Within.trans ?_ (by assumption)))) ?_
      clear hK K
      try simp only [Act.put, List.setIfInBounds_toArray, List.set_cons_zero, List.set_cons_succ]
      refine sch_one rfl rfl (fun K hK => ?_)
      go_simp
      refine hK _ _ (fun h => absurd h (by decide)) ?_
      clear hK K
      try simp only [Act.put, List.setIfInBounds_toArray, List.set_cons_zero, List.set_cons_succ]
      refine sch_nil ?_
      go_wp2_with fail
      all_goals
        refine RD6.out.mono ?_; rintro e7 w7 ⟨lv7, rfl, hL7, h7⟩
        obtain ⟨A7, c7, rfl, _, _⟩ := RecsO.same' hL7
        have HX7 := Lib.hid (HX6.out.trans h7)
        obtain ⟨y, hy⟩ : ∃ y, (logRead l25).2.1 = y := ⟨_, rfl⟩
        have hy0 := CT.out
        skip
        simp only [← List.append_assoc] at hy0
        rw [HL21.out, HL22.out, HL23.out, HL24.out, HL25.out] at hy0
        rw [hy] at hy0
        rw [hy]
        have fy : ((y : Int) != 0) = true := by rw [bne_iff_ne]; omega
        clear h7 hL7
        go_wp2
        go_ret
        exact ⟨rfl, HX7.out.alloc _⟩
  · have hzr : (cw.tmod 3 + 3).tmod 3 = 2 := hzr
    obtain ⟨_, e1, _, hcx⟩ := HEA.out.all (i) (by rw [HRN.out]; omega)
    obtain rfl := Option.some.inj e1
    obtain ⟨qa, hqa⟩ : ∃ q, lenL rs (i) = q := ⟨_, rfl⟩
    rw [hqa] at hcx
    have cca := hcx
    have hlea := lenL_mono (rs := rs) (show i ≤ rn by omega)
    rw [HLM.out, hqa] at hlea
    clear e1 hcx
    obtain ⟨_, e1, _, hcx⟩ := HEA.out.all (i + 1) (by rw [HRN.out]; omega)
    obtain rfl := Option.some.inj e1
    obtain ⟨qb, hqb⟩ : ∃ q, lenL rs (i + 1) = q := ⟨_, rfl⟩
    rw [hqb] at hcx
    have ccb := hcx
    have hleb := lenL_mono (rs := rs) (show i + 1 ≤ rn by omega)
    rw [HLM.out, hqb] at hleb
    clear e1 hcx
    rw [add_plain' _ (by omega)] at ccb
    obtain ⟨_, e1, _, hcx⟩ := HEA.out.all (k + 1) (by rw [HRN.out]; omega)
    obtain rfl := Option.some.inj e1
    obtain ⟨qc, hqc⟩ : ∃ q, lenL rs (k + 1) = q := ⟨_, rfl⟩
    rw [hqc] at hcx
    have ccc := hcx
    have hlec := lenL_mono (rs := rs) (show k + 1 ≤ rn by omega)
    rw [HLM.out, hqc] at hlec
    clear e1 hcx
    rw [add_plain' _ (by omega)] at ccc
    have ti1 : (i : Int) < (rn : Int) + 1 := by omega
    have ti2 : (i : Int) + 1 < (rn : Int) + 1 := by omega
    have ti3 : (0 : Int) ≤ (i : Int) := by omega
    have ti4 : (0 : Int) ≤ (i : Int) + 1 := by omega
    have ti5 : IntKind.i64.wrap ((i : Int) + 1) = (i : Int) + 1 := by rw [IntKind.wrap_i64]; omega
    have tk1 : (k : Int) < (rn : Int) + 1 := by omega
    have tk2 : (k : Int) + 1 < (rn : Int) + 1 := by omega
    have tk3 : (0 : Int) ≤ (k : Int) := by omega
    have tk4 : (0 : Int) ≤ (k : Int) + 1 := by omega
    have tk5 : IntKind.i64.wrap ((k : Int) + 1) = (k : Int) + 1 := by rw [IntKind.wrap_i64]; omega
    have hab := lenL_mono (rs := rs) (show i ≤ i + 1 by omega)
    rw [hqa, hqb] at hab
    have u1 : (qa : Int) ≤ (qb : Int) := by omega
    have u2 : (qb : Int) ≤ (c3 : Int) := by omega
    have u3 : (qc : Int) ≤ (m : Int) := by omega
    have u4 : (qc : Int) ≤ (c3 : Int) := by omega
    have u5 : (qa : Int) ≤ (c3 : Int) := by omega
    have hA := HRW.out.at hg4
    have HA := Lib.hid hA; clear hA
    have ct := C2.out i k hi hk
    rw [hqa, hqb, hqc] at ct
    have CT := Lib.hid ct; clear ct hqa hqb hqc
    go_wp2_with fail
    refine wp_region_schG (fun W => W.cell? (ad.add i) = some (.int .i64 (qa : Int)) ∧ W.cell? ⟨ad.block, ad.off + (i + 1), none⟩ = some (.int .i64 (qb : Int)) ∧ W.cell? ⟨ad.block, ad.off + (k + 1), none⟩ = some (.int .i64 (qc : Int)) ∧ ad.block < W.heap.size ∧ g < W.heap.size ∧ SlAt W (some ⟨g, 0, none⟩) (u8v b) ∧ Within w W) 29 (.firm 0 (.firm 1 (.firm 2 (.firm 3 (.firm 4 (.firm 5 (.firm 6 (.firm 7 (.firm 9 (.firm 10 (.firm 11 (.firm 12 (.firm 13 (.firm 14 (.firm 15 (.firm 16 (.firm 17 (.firm 18 (.firm 19 (.firm 21 (.firm 22 (.firm 23 (.firm 24 (.firm 25 (.firm 26 (.firm 27 (.one 8 (.one 20 (.one 28 (.one 29 .nil)))))))))))))))))))))))))))))) (by kernel_rfl) (by kernel_rfl) ⟨cca, ccb, ccc, hadb, hg4, HA.out.of ((Within.refl _).drew), HX4.out.drew⟩ ?_
    rintro w0 ⟨cca, ccb, ccc, hadb, hg4, hsl, hx4⟩
    try simp only [Act.put, List.setIfInBounds_toArray, List.set_cons_zero, List.set_cons_succ]
    iterate 26
      apply sch_firm rfl rfl (by repeat (first | with_reducible exact Within.refl _ | with_reducible assumption | with_reducible refine Within.alloc ?_ _ | with_reducible refine Within.drew ?_ | with_reducible refine Within.drewN ?_ _ | with_reducible refine Within.setCell ?_ (by first | (simp; done) | (simp; omega)) _ | with_reducible refine Within.trans ?_ (by assumption)))
      · intro wq hq
        have hcq := hq.cells
        have gx := (hq.cell (p := ad.add i) (by rw [add_block]; exact hadb)).trans cca
        have gy := (hq.cell (p := ⟨ad.block, ad.off + (i + 1), none⟩) hadb).trans ccb
        have gz := (hq.cell (p := ⟨ad.block, ad.off + (k + 1), none⟩) hadb).trans ccc
        clear hq
        go_simp
        rfl
      try simp only [Act.put, List.setIfInBounds_toArray, List.set_cons_zero, List.set_cons_succ]
    refine sch_one rfl rfl (fun K hK => ?_)
    have hsn : (b.take qc).length = qc := by simp only [List.length_take, List.length_drop, HM.out] <;> omega
    have hss : SlAt w0.drew (some ⟨g, 0, none⟩) (u8v (b.take qc)) := by have h := (hsl.of ((Within.refl w0).drew)).take qc; unfold u8v at h ⊢; rwa [← List.map_take] at h
    obtain ⟨v21, w21, hrun, hO, hB⟩ := run_app_u8 w0.drew w0.heap.size (.slice none 0 0) [] (b.take qc) (OwnB.nil_ _ _) (some ⟨g, 0, none⟩) (c3) hss (by rw [List.length_nil];  rw [hsn]; omega) (Nat.le_refl _)
    rw [List.nil_append] at hO
    rw [hsn] at hrun
    have hlen : (b.take qc).length ≤ 0 + m := by  rw [hsn]; omega
    have hbyt : Bytes (b.take qc) := HBT.out.take _
    obtain ⟨l21, hl⟩ : ∃ l, b.take qc = l := ⟨_, rfl⟩
    rw [hl] at hO hlen hbyt
    have hX : Within w0 w21 := Below.trans ((Within.refl w0).drew) hB
    have hlen : l21.length ≤ 1 * m := by omega
    have RUN21 := Lib.hid hrun; have HO21 := Lib.hid hO; have HL21 := Lib.hid hl; have HN21 := Lib.hid hlen; have HBY21 := Lib.hid hbyt; have HX21 := Lib.hid hX; have hX21 := hX; clear hrun hO hB hl hlen hbyt hX hsn hss
    refine op_append_run (.tmp 58) (.tmp 65) 22 rfl _ _ rfl rfl RUN21.out ?_
    obtain ⟨A21, k21, rfl, hk21, hs21, _⟩ := HO21.out.form
    clear hk21 hs21
    refine hK _ _ (fun _ => (by repeat (first | with_reducible exact Within.refl _ | with_reducible assumption | with_reducible refine Within.alloc ?_ _ | with_reducible refine Within.drew ?_ | with_reducible refine Within.drewN ?_ _ | with_reducible refine Within.setCell ?_ (by first | (simp; done) | (simp; omega)) _ | with_reducible refine Within.trans ?_ (by assumption)))) ?_
    clear hK K
    try simp only [Act.put, List.setIfInBounds_toArray, List.set_cons_zero, List.set_cons_succ]
    refine sch_one rfl rfl (fun K hK => ?_)
    have hsn : ((b.drop qa).take (qb - qa)).length = qb - qa := by simp only [List.length_take, List.length_drop, HM.out] <;> omega
    have hss : SlAt w21 (if c3 = qa then some ⟨g, 0, none⟩ else some ⟨g, qa, none⟩) (u8v (b.drop qa)) := by
                split
                · rename_i h
                  rw [List.drop_eq_nil_of_le (by rw [HM.out]; omega)]; exact SlAt.nil
                · have h := (hsl.of HX21.out).drop qa
                  rw [add_at] at h
                  unfold u8v at h ⊢
                  rwa [← List.map_drop] at h
    have hss : SlAt w21 (if c3 = qa then some ⟨g, 0, none⟩ else some ⟨g, qa, none⟩) (u8v ((b.drop qa).take (qb - qa))) := by have h := hss.take (qb - qa); unfold u8v at h ⊢; rwa [← List.map_take] at h
    obtain ⟨v22, w22, hrun, hO, hB⟩ := run_app_u8 w21 w0.heap.size (.slice A21 l21.length k21) l21 ((b.drop qa).take (qb - qa)) HO21.out (if c3 = qa then some ⟨g, 0, none⟩ else some ⟨g, qa, none⟩) (c3 - qa) hss (by have := HN21.out;  rw [hsn]; omega) HX21.out.size
    rw [hsn] at hrun
    have hlen : (l21 ++ (b.drop qa).take (qb - qa)).length ≤ 1 * m + m := by rw [List.length_append]; have := HN21.out; rw [hsn]; omega
    have hbyt : Bytes (l21 ++ (b.drop qa).take (qb - qa)) := HBY21.out.append ((HBT.out.drop _).take _)
    obtain ⟨l22, hl⟩ : ∃ l, l21 ++ (b.drop qa).take (qb - qa) = l := ⟨_, rfl⟩
    rw [hl] at hO hlen hbyt
    have hX : Within w0 w22 := Below.trans HX21.out hB
    have hlen : l22.length ≤ 2 * m := by omega
    have RUN22 := Lib.hid hrun; have HO22 := Lib.hid hO; have HL22 := Lib.hid hl; have HN22 := Lib.hid hlen; have HBY22 := Lib.hid hbyt; have HX22 := Lib.hid hX; have hX22 := hX; clear hrun hO hB hl hlen hbyt hX hsn hss
    refine op_append_run (.tmp 66) (.tmp 77) 22 rfl _ _ rfl rfl RUN22.out ?_
    obtain ⟨A22, k22, rfl, hk22, hs22, _⟩ := HO22.out.form
    clear hk22 hs22
    refine hK _ _ (fun _ => (by repeat (first | with_reducible exact Within.refl _ | with_reducible assumption | with_reducible refine Within.alloc ?_ _ | with_reducible refine Within.drew ?_ | with_reducible refine Within.drewN ?_ _ | with_reducible refine Within.setCell ?_ (by first | (simp; done) | (simp; omega)) _ | with_reducible refine Within.trans ?_ (by assumption)))) ?_
    clear hK K
    try simp only [Act.put, List.setIfInBounds_toArray, List.set_cons_zero, List.set_cons_succ]
    refine sch_one rfl rfl (fun K hK => ?_)
    have hsn : (b.drop qc).length = m - qc := by simp only [List.length_take, List.length_drop, HM.out] <;> omega
    have hss : SlAt w22 (if c3 = qc then some ⟨g, 0, none⟩ else some ⟨g, qc, none⟩) (u8v (b.drop qc)) := by
                split
                · rename_i h
                  rw [List.drop_eq_nil_of_le (by rw [HM.out]; omega)]; exact SlAt.nil
                · have h := (hsl.of HX22.out).drop qc
                  rw [add_at] at h
                  unfold u8v at h ⊢
                  rwa [← List.map_drop] at h
    obtain ⟨v23, w23, hrun, hO, hB⟩ := run_app_u8 w22 w0.heap.size (.slice A22 l22.length k22) l22 (b.drop qc) HO22.out (if c3 = qc then some ⟨g, 0, none⟩ else some ⟨g, qc, none⟩) (c3 - qc) hss (by have := HN22.out;  rw [hsn]; omega) HX22.out.size
    rw [hsn] at hrun
    have hlen : (l22 ++ b.drop qc).length ≤ 2 * m + m := by rw [List.length_append]; have := HN22.out; rw [hsn]; omega
    have hbyt : Bytes (l22 ++ b.drop qc) := HBY22.out.append (HBT.out.drop _)
    obtain ⟨l23, hl⟩ : ∃ l, l22 ++ b.drop qc = l := ⟨_, rfl⟩
    rw [hl] at hO hlen hbyt
    have hX : Within w0 w23 := Below.trans HX22.out hB
    have hlen : l23.length ≤ 3 * m := by omega
    have RUN23 := Lib.hid hrun; have HO23 := Lib.hid hO; have HL23 := Lib.hid hl; have HN23 := Lib.hid hlen; have HBY23 := Lib.hid hbyt; have HX23 := Lib.hid hX; have hX23 := hX; clear hrun hO hB hl hlen hbyt hX hsn hss
    refine op_append_run (.tmp 78) (.tmp 85) 22 rfl _ _ rfl rfl RUN23.out ?_
    obtain ⟨A23, k23, rfl, hk23, hs23, _⟩ := HO23.out.form
    have RD6 := Lib.hid (RD.out w23 A23 l23 k23 (hx4.trans HX23.out) HBY23.out (by have := HN23.out; omega) hk23 hs23)
    have HX6 := Lib.hid (hx4.trans HX23.out)
    clear hk23 hs23
    refine hK _ _ (fun _ => (by repeat (first | with_reducible exact Within.refl _ | with_reducible assumption | with_reducible refine Within.alloc ?_ _ | with_reducible refine Within.drew ?_ | with_reducible refine Within.drewN ?_ _ | with_reducible refine Within.setCell ?_ (by first | (simp; done) | (simp; omega)) _ | with_reducible refine Within.trans ?_ (by assumption)))) ?_
    clear hK K
    try simp only [Act.put, List.setIfInBounds_toArray, List.set_cons_zero, List.set_cons_succ]
    refine sch_one rfl rfl (fun K hK => ?_)
    go_simp
    refine hK _ _ (fun h => absurd h (by decide)) ?_
    clear hK K
    try simp only [Act.put, List.setIfInBounds_toArray, List.set_cons_zero, List.set_cons_succ]
    refine sch_nil ?_
    go_wp2_with fail
    all_goals
      refine RD6.out.mono ?_; rintro e7 w7 ⟨lv7, rfl, hL7, h7⟩
      obtain ⟨A7, c7, rfl, _, _⟩ := RecsO.same' hL7
      have HX7 := Lib.hid (HX6.out.trans h7)
      obtain ⟨y, hy⟩ : ∃ y, (logRead l23).2.1 = y := ⟨_, rfl⟩
      have hy0 := CT.out
      skip
      rw [← List.append_assoc, HL21.out, HL22.out, HL23.out] at hy0
      rw [hy] at hy0
      rw [hy]
      have fy : ((y : Int) != 0) = true := by rw [bne_iff_ne]; omega
      clear h7 hL7
      go_wp2
      go_ret
      exact ⟨rfl, HX7.out.alloc _⟩
end Go.Proofs.YtpmjlaiafgbjgaaDoor
end
section
namespace Go.Proofs.YtpmjlaiafgbjgaaDoor.Base
open Go.ChangeShapes Go.WideShapes Go.ChangeAt Go.RowKit
theorem own : ownKnob Tryd.prog.godebug = none := by kernel_rfl
theorem laidOut : laidOutB Tryd.prog = true := by kernel_rfl
theorem gS : Tryd.prog.globalNamed "binnacle/convert.single" = some 1 := by kernel_rfl
theorem gST : (Tryd.prog.globals[1]?).map (·.type) = some 148 := by kernel_rfl
theorem cellsI : Tryd.prog.cellsOf 3 = 1 := by kernel_rfl
theorem fmt_cells {W : World} {name : String} {g : Nat} {a b c : Int} {rest : List (String × DataW Unit)} {ps : List MemPlace}
    (hg : Tryd.prog.globalNamed name = some g) (hty : (Tryd.prog.globals[g]?).map (·.type) = some 148)
    (h : DataW.LaidVars Tryd.prog W ((name, .agg [.lit (.int .i64 a), .lit (.int .i64 b), .lit (.int .i64 c)]) :: rest) ps) :
    (W.cell? ⟨g, 0, none⟩ = some (.int .i64 a) ∧ W.cell? ⟨g, 1, none⟩ = some (.int .i64 b) ∧ W.cell? ⟨g, 2, none⟩ = some (.int .i64 c)) ∧ ∃ q, DataW.LaidVars Tryd.prog W rest q := by
  obtain ⟨g', t', cs, fuel, p, q, hg', ht', hvar, hd, hr, _⟩ := h
  obtain rfl := Option.some.inj (hg.symm.trans hg')
  obtain rfl := Option.some.inj (hty.symm.trans ht')
  obtain ⟨y0, y1, y2, n, hx, hl, h0, h1, h2⟩ := Go.Deep.trod_struct3 Tryd.underlying148 hd
  obtain ⟨c0, e0, x0, _⟩ := DataW.trod_int Tryd.underlying3 h0
  obtain ⟨c1, e1, x1, _⟩ := DataW.trod_int Tryd.underlying3 h1
  obtain ⟨c2, e2, x2, _⟩ := DataW.trod_int Tryd.underlying3 h2
  subst x0 x1 x2
  have hx1 := congrArg Prod.fst hx
  simp at hx1
  obtain ⟨rfl, rfl, rfl⟩ := hx1
  have v := World.var?_cell hg hvar
  refine ⟨⟨?_, ?_, ?_⟩, q, hr⟩
  · rw [v 0]
    have := congrArg (·[0]?) e0
    simpa [cellsI, List.getElem?_take, List.getElem?_drop] using this
  · rw [v 1]
    have := congrArg (·[0]?) e1
    simpa [cellsI, List.getElem?_take, List.getElem?_drop] using this
  · rw [v 2]
    have := congrArg (·[0]?) e2
    simpa [cellsI, List.getElem?_take, List.getElem?_drop] using this
theorem fmS {W : World} {rest : List (String × DataW Unit)} (h : laidMet Tryd.prog (("binnacle/convert.single", Rows.laid_binnacle_convert_single) :: rest) W) : FmS W := by
  obtain ⟨ps, h1, _⟩ := h
  exact (fmt_cells gS gST h1).1
theorem nat_of_u32 {n : Int} (h : (Lit.int .u32 n).wf = true) : ∃ a : Nat, n = a ∧ a < 4294967296 := by
  simp only [Lit.wf, Bool.and_eq_true, decide_eq_true_eq] at h
  have h1 : (0 : Int) ≤ n := h.1
  have h2 : n ≤ 4294967295 := h.2
  exact ⟨n.toNat, by omega, by omega⟩
theorem int_of_i64 {n : Int} (h : (Lit.int .i64 n).wf = true) : -9223372036854775808 ≤ n ∧ n < 9223372036854775808 := by
  simp only [Lit.wf, Bool.and_eq_true, decide_eq_true_eq] at h
  have h1 : (-9223372036854775808 : Int) ≤ n := h.1
  have h2 : n ≤ 9223372036854775807 := h.2
  exact ⟨h1, by omega⟩
def layVar (g : Nat) (cs : Array Value) (h : Array Obj) : Array Obj := h.modify g fun
  | .cells _ t frozen => .cells cs t frozen
  | o => o
noncomputable def laidWorld (os : Os) : World :=
  { World.holding Tryd.prog os ⟨#[], #[], []⟩ with heap := layVar 1 #[.int .i64 24, .int .i64 (-126), .int .i64 127] (World.holding Tryd.prog os ⟨#[], #[], []⟩).heap }
section
variable {H : Type} {enc : TypeId × Value → H} {W : World}
theorem open_ns {t e : TypeId} {k : IntKind} {y : Nat} (ht : Tryd.prog.underlying t = some (.slice e)) (he : Tryd.prog.underlying e = some (.int k)) (hc : Tryd.prog.cellsOf e = 1) (hy : Tryd.prog.bytesOf e = y) {fuel : Nat} {v : Value} {x : DataW H × List MemPlace}
    (h : DataW.trod enc Tryd.prog W 0 (fun _ => true) true fuel t [v] = some x) (hz : ∀ n ∈ x.1.weights Tryd.prog t, n ≤ reachBytes) :
    ∃ (a0 : Option Addr) (cap : Nat) (zs : List Int), v = .slice a0 zs.length cap ∧ zs.length ≤ cap ∧ zs.length * y ≤ reachBytes ∧ (∀ n ∈ zs, (Lit.int k n).wf = true) ∧ SlAt W a0 (zs.map (Value.int k)) := by
  rcases open_ints ht he hc h with ⟨hcs, hx⟩ | ⟨a, len, cap, zs, hcs, _, hl, hm, hzl, hx, hcell, hwz⟩
  · simp at hcs
    exact ⟨none, 0, [], hcs, Nat.le_refl _, by simp, (fun n hn => absurd hn (by simp)), SlAt.nil⟩
  · simp at hcs
    simp only [if_true] at hzl
    subst hx
    have hlen : (zs.take len).length = len := by rw [List.length_take]; omega
    refine ⟨some a, cap, zs.take len, by rw [hlen]; exact hcs, by rw [hlen]; exact hl, ?_, fun n hn => hwz n (List.mem_of_mem_take hn), fun hn => ?_⟩
    · have hw := hz (cap * y) (by
        rw [DataW.weights, ht]
        refine List.mem_cons.2 (.inl ?_)
        rw [hy, show (lits (H := H) k (zs.take len)).length + (lits (H := H) k (zs.drop len)).length = cap by
          unfold lits; rw [List.length_map, List.length_map, List.length_take, List.length_drop]; omega])
      rw [hlen]
      exact Nat.le_trans (Nat.mul_le_mul_right _ hl) hw
    · rw [List.length_map, hlen] at hn
      have h0 := hcell 0 (by omega)
      refine ⟨a, rfl, by have := World.block_lt_of_cell? _ _ h0; rwa [add_block] at this, fun j u hu => ?_⟩
      rw [List.getElem?_map, Option.map_eq_some_iff] at hu
      obtain ⟨z, hz1, rfl⟩ := hu
      obtain ⟨hj, hz2⟩ := List.getElem?_eq_some_iff.1 hz1
      rw [hlen] at hj
      rw [hcell j (by omega)]
      rw [List.getElem_take] at hz2
      simp [List.getD, List.getElem?_eq_getElem (show j < zs.length by omega), hz2]
theorem nats_of {k : IntKind} {m : Nat} (hk : ∀ n : Int, (Lit.int k n).wf = true → 0 ≤ n ∧ n < m) {zs : List Int} (h : ∀ n ∈ zs, (Lit.int k n).wf = true) : ∃ l : List Nat, zs = l.map (fun (x : Nat) => (x : Int)) ∧ ∀ x ∈ l, x < m := by
  refine ⟨zs.map Int.toNat, ?_, fun x hx => ?_⟩
  · rw [List.map_map]
    conv => lhs; rw [← List.map_id zs]
    refine List.map_congr_left fun n hn => ?_
    have := (hk n (h n hn)).1
    simp only [id, Function.comp]; omega
  · obtain ⟨n, hn, rfl⟩ := List.mem_map.1 hx
    have := hk n (h n hn)
    omega
theorem wf_u8 (n : Int) (h : (Lit.int .u8 n).wf = true) : 0 ≤ n ∧ n < (256 : Nat) := by
  simp only [Lit.wf, Bool.and_eq_true, decide_eq_true_eq] at h
  have h1 : (0 : Int) ≤ n := h.1
  have h2 : n ≤ 255 := h.2
  omega
theorem wf_u64 (n : Int) (h : (Lit.int .u64 n).wf = true) : 0 ≤ n ∧ n < (18446744073709551616 : Nat) := by
  simp only [Lit.wf, Bool.and_eq_true, decide_eq_true_eq] at h
  have h1 : (0 : Int) ≤ n := h.1
  have h2 : n ≤ 18446744073709551615 := h.2
  omega
set_option maxRecDepth 100000 in
theorem open_u8 {fuel : Nat} {v : Value} {x : DataW H × List MemPlace} (h : DataW.trod enc Tryd.prog W 0 (fun _ => true) true fuel 22 [v] = some x) (hz : ∀ n ∈ x.1.weights Tryd.prog 22, n ≤ reachBytes) :
    ∃ (a0 : Option Addr) (cap : Nat) (l : List Nat), v = .slice a0 l.length cap ∧ l.length ≤ cap ∧ l.length ≤ 140737488355328 ∧ Bytes l ∧ SlAt W a0 (u8v l) := by
  obtain ⟨a0, cap, zs, h1, h2, h3, h4, h5⟩ := open_ns (y := 1) Tryd.underlying22 Tryd.underlying5 (by kernel_rfl) (by kernel_rfl) h hz
  obtain ⟨l, rfl, hl⟩ := nats_of wf_u8 h4
  rw [List.length_map] at h1 h2 h3
  refine ⟨a0, cap, l, h1, h2, ?_, hl, ?_⟩
  · have : reachBytes = 140737488351232 := rfl
    omega
  · unfold u8v; rw [List.map_map] at h5; exact h5
set_option maxRecDepth 100000 in
theorem open_u64 {fuel : Nat} {v : Value} {x : DataW H × List MemPlace} (h : DataW.trod enc Tryd.prog W 0 (fun _ => true) true fuel 57 [v] = some x) (hz : ∀ n ∈ x.1.weights Tryd.prog 57, n ≤ reachBytes) :
    ∃ (a0 : Option Addr) (cap : Nat) (l : List Nat), v = .slice a0 l.length cap ∧ l.length ≤ cap ∧ l.length * 8 ≤ 140737488355328 ∧ (∀ x ∈ l, x < 18446744073709551616) ∧ SlAt W a0 (u64v l) := by
  obtain ⟨a0, cap, zs, h1, h2, h3, h4, h5⟩ := open_ns (y := 8) Tryd.underlying57 Tryd.underlying110 (by kernel_rfl) (by kernel_rfl) h hz
  obtain ⟨l, rfl, hl⟩ := nats_of wf_u64 h4
  rw [List.length_map] at h1 h2 h3
  refine ⟨a0, cap, l, h1, h2, ?_, hl, ?_⟩
  · have : reachBytes = 140737488351232 := rfl
    omega
  · unfold u64v; rw [List.map_map] at h5; exact h5
set_option maxRecDepth 100000 in
theorem open_bytes {r : Reach} {b0 : Nat} {v : Value} {d : DataW H} {p : List MemPlace} (hv : Value.okWide Tryd.prog W r b0 22 v) (h : DataW.Trod enc Tryd.prog W 0 (fun _ => true) true 22 v d p) (hz : ∀ n ∈ d.weights Tryd.prog 22, n ≤ reachBytes) :
    ∃ (a0 : Option Addr) (cap : Nat) (l : List Nat), v = .slice a0 l.length cap ∧ l.length ≤ cap ∧ l.length ≤ 140737488355328 ∧ Bytes l ∧ SlAt W a0 (u8v l) := by
  obtain ⟨a, len, cap, rfl⟩ := okWide_slice Tryd.underlying22 hv
  obtain ⟨fuel, hf⟩ := h
  exact open_u8 (x := (d, p)) (by simpa [Value.cells] using hf) hz
theorem rdCells : Tryd.prog.cellsOf 59 = 4 := by kernel_rfl
set_option maxRecDepth 100000 in
theorem open_rd {r : Reach} {b0 : Nat} {v : Value} {d : DataW H} {p : List MemPlace} (hv : Value.okWide Tryd.prog W r b0 59 v) (h : DataW.Trod enc Tryd.prog W 0 (fun _ => true) true 59 v d p)
    (hz : ∀ n ∈ d.weights Tryd.prog 59, n ≤ reachBytes) :
    ∃ (s : Int) (q t : Nat) (a0 : Option Addr) (cap : Nat) (l : List Nat), v = .agg #[.int .i64 s, .int .u32 (q : Int), .int .u32 (t : Int), .slice a0 l.length cap] ∧ q < 4294967296 ∧ t < 4294967296 ∧ l.length ≤ cap ∧ l.length * 8 ≤ 140737488355328 ∧ (∀ x ∈ l, x < 18446744073709551616) ∧ SlAt W a0 (u64v l) ∧ (-9223372036854775808 ≤ s ∧ s < 9223372036854775808) := by
  obtain ⟨v0, v1, v2, v3, y0, y1, y2, y3, n, rfl, rfl, rfl, h0, h1, h2, h3⟩ := Go.Joins.open_agg4 Tryd.underlying59 (by kernel_rfl) rdCells hv h
  obtain ⟨s, e0, x0, w0⟩ := DataW.trod_int Tryd.underlying3 h0
  obtain ⟨q, e1, x1, w1⟩ := DataW.trod_int Tryd.underlying56 h1
  obtain ⟨t, e2, x2, w2⟩ := DataW.trod_int Tryd.underlying56 h2
  obtain ⟨a0, cap, l, rfl, h4, h5, h6, h7⟩ := open_u64 h3 (fun n hn => hz n (by
    rw [DataW.weights, Tryd.underlying59]
    exact DataW.weights_mem_each (j := 3) rfl rfl n hn))
  simp at e0 e1 e2
  subst e0 e1 e2
  obtain ⟨q, rfl, hq⟩ := nat_of_u32 w1
  obtain ⟨t, rfl, ht⟩ := nat_of_u32 w2
  exact ⟨s, q, t, a0, cap, l, rfl, hq, ht, h4, h5, h6, h7, int_of_i64 w0⟩
theorem wt_of {ts : List TypeId} {ds : List (DataW H)} (h : (DataW.weightsEach Tryd.prog ts ds).all (· ≤ reachBytes) = true) {j : Nat} {t : TypeId} {d : DataW H} (ht : ts[j]? = some t) (hd : ds[j]? = some d) : ∀ n ∈ d.weights Tryd.prog t, n ≤ reachBytes :=
  fun n hn => of_decide_eq_true (List.all_eq_true.1 h n (DataW.weights_mem_each ht hd n hn))
end
end Go.Proofs.YtpmjlaiafgbjgaaDoor.Base
end
section
namespace Go.Proofs.YtpmjlaiafgbjgaaDoor.Base
open Go.ChangeShapes Go.WideShapes Go.ChangeAt Go.RowKit
section
variable {H : Type} {enc : TypeId × Value → H} {W : World}
theorem weightsAll_mem {P : Program} {e : TypeId} {d : DataW H} : ∀ {l : List (DataW H)}, d ∈ l → ∀ n ∈ d.weights P e, n ∈ DataW.weightsAll P e l
  | [], h, _, _ => by cases h
  | x :: r, h, n, hn => by
    rw [DataW.weightsAll, List.mem_append]
    rcases List.mem_cons.1 h with rfl | h
    · exact .inl hn
    · exact .inr (weightsAll_mem h n hn)
theorem chosen {α : Type} [Inhabited α] {m : Nat} {p : Nat → α → Prop} (h : ∀ i, i < m → ∃ v, p i v) : ∃ V : Nat → α, ∀ i, i < m → p i (V i) := by
  classical
  refine ⟨fun i => if hi : i < m then (h i hi).choose else default, fun i hi => ?_⟩
  simp only [dif_pos hi]
  exact (h i hi).choose_spec
set_option maxRecDepth 100000 in
theorem recCells : Tryd.prog.cellsOf 50 = 2 := by kernel_rfl
set_option maxRecDepth 100000 in
theorem recBytes : Tryd.prog.bytesOf 50 = 32 := by kernel_rfl
set_option maxRecDepth 100000 in
theorem open_text {r : Reach} {b0 : Nat} {v : Value} {d : DataW H} {p : List MemPlace} (hv : Value.okWide Tryd.prog W r b0 9 v) (h : DataW.Trod enc Tryd.prog W 0 (fun _ => true) true 9 v d p) (hz : ∀ n ∈ d.weights Tryd.prog 9, n ≤ reachBytes) : ∃ s : ByteArray, v = .string s ∧ s.size ≤ 140737488355328 := by
  obtain ⟨fuel, hf⟩ := h
  obtain ⟨s, hs, hx, _⟩ := DataW.trod_string Tryd.underlying9 hf
  obtain ⟨s', rfl⟩ := okWide_string Tryd.underlying9 hv
  obtain rfl : s' = s := by simpa [Value.cells] using hs
  refine ⟨s', rfl, ?_⟩
  have hd := congrArg Prod.fst hx
  simp only at hd
  subst hd
  have := hz s'.size (by rw [DataW.weights]; exact List.mem_singleton.2 (by rw [Array.length_toList]; rfl))
  have e : reachBytes = 140737488351232 := rfl
  omega
set_option maxRecDepth 100000 in
theorem open_rec {r : Reach} {b0 : Nat} {v : Value} {d : DataW H} {p : List MemPlace} (hv : Value.okWide Tryd.prog W r b0 50 v) (h : DataW.Trod enc Tryd.prog W 0 (fun _ => true) true 50 v d p)
    (hz : ∀ n ∈ d.weights Tryd.prog 50, n ≤ reachBytes) :
    ∃ (k : Int) (a0 : Option Addr) (cap : Nat) (l : List Nat), v = .agg #[.int .i64 k, .slice a0 l.length cap] ∧ l.length ≤ cap ∧ l.length ≤ 140737488355328 ∧ Bytes l ∧ SlAt W a0 (u8v l) := by
  obtain ⟨v0, v1, y0, y1, n, rfl, rfl, rfl, h0, h1⟩ := Go.Joins.open_agg2 Tryd.underlying50 (by kernel_rfl) recCells hv h
  obtain ⟨s, e0, x0, w0⟩ := DataW.trod_int Tryd.underlying3 h0
  obtain ⟨a0, cap, l, rfl, h4, h5, h6, h7⟩ := open_u8 h1 (fun n hn => hz n (by
    rw [DataW.weights, Tryd.underlying50]
    exact DataW.weights_mem_each (j := 1) rfl rfl n hn))
  simp at e0
  subst e0
  exact ⟨s, a0, cap, l, rfl, h4, h5, h6, h7⟩
theorem cells2 {w : World} {base : Nat} {a : Addr} {cs : List Value} (h : w.cells? base a 2 = some cs) : ∃ c0 c1, cs = [c0, c1] ∧ w.cell? (a.add 0) = some c0 ∧ w.cell? (a.add 1) = some c1 := by
  obtain ⟨_, hl, hc⟩ := World.cells?_some h
  match cs, hl with
  | [c0, c1], _ => exact ⟨c0, c1, rfl, by simpa using hc 0 (by omega), by simpa using hc 1 (by omega)⟩
theorem open_list2 {P : Program} {w : World} {base : Nat} {spare : Nat → Bool} {held : Bool} {t : TypeId} {f0 f1 : Field} {fuel : Nat} {c0 c1 : Value} {x : DataW H × List MemPlace} (hs : P.underlying t = some (.struct #[f0, f1])) (hone : Go.Deep.oneCellFields P #[f0, f1] = true)
    (h : DataW.trod enc P w base spare held fuel t [c0, c1] = some x) :
    ∃ (y0 y1 : DataW H × List MemPlace) (n : Nat), x = (.agg [y0.1, y1.1], y0.2 ++ y1.2) ∧ DataW.trod enc P w base spare held n f0.type [c0] = some y0 ∧ DataW.trod enc P w base spare held n f1.type [c1] = some y1 := by
  obtain ⟨y0, y1, n, hx, _, h0, h1⟩ := trod_struct2 hs h
  obtain ⟨o0, k0⟩ := Go.Deep.hone_of hone 0 f0 rfl
  obtain ⟨o1, k1⟩ := Go.Deep.hone_of hone 1 f1 rfl
  exact ⟨y0, y1, n, hx, by simpa [o0, k0] using h0, by simpa [o1, k1] using h1⟩
set_option maxRecDepth 100000 in
theorem open_recs {r : Reach} {b0 : Nat} {v : Value} {d : DataW H} {p : List MemPlace} (hv : Value.okWide Tryd.prog W r b0 31 v) (h : DataW.Trod enc Tryd.prog W 0 (fun _ => true) true 31 v d p) (hz : ∀ n ∈ d.weights Tryd.prog 31, n ≤ reachBytes) :
    ∃ (a0 : Option Addr) (cap : Nat) (ls : List IRec), v = .slice a0 ls.length cap ∧ ls.length ≤ cap ∧ ls.length * 32 ≤ 140737488355328 ∧ (∀ r ∈ ls, r.2.length ≤ 140737488355328) ∧ RecAt W (fun _ => True) a0 ls := by
  obtain ⟨a, len, cap, rfl⟩ := okWide_slice Tryd.underlying31 hv
  obtain ⟨fuel, hf⟩ := h
  rcases Go.Deep.open_slice Tryd.underlying31 (by simpa [Value.cells] using hf) with ⟨hcs, hx⟩ | ⟨ad, ln, cp, m, n, D, Pl, hcs, _, hl, _, hm, hx, hcell⟩
  · simp at hcs
    obtain ⟨rfl, rfl, rfl⟩ := hcs
    exact ⟨none, 0, [], rfl, Nat.le_refl _, Nat.zero_le _, (fun r hr => by cases hr), RecAt.nil⟩
  · simp at hcs
    obtain ⟨rfl, rfl, rfl⟩ := hcs
    simp only [if_true] at hm
    have hm' := hm.symm
    subst hm'
    have hd := congrArg Prod.fst hx
    simp only at hd
    subst hd
    rw [recCells] at hcell
    have hw : ∀ i, i < len → ∀ k ∈ (D i).weights Tryd.prog 50, k ≤ reachBytes := fun i hi k hk => by
      refine hz k ?_
      rw [DataW.weights, Tryd.underlying31]
      refine List.mem_cons.2 (.inr (List.mem_append.2 (.inl ?_)))
      exact weightsAll_mem (List.mem_map.2 ⟨i, List.mem_range.2 hi, rfl⟩) k hk
    have hlen : len * 32 ≤ 140737488355328 := by
      have := hz (len * 32 + (cap - len) * 32) (by
        rw [DataW.weights, Tryd.underlying31]
        refine List.mem_cons.2 (.inl ?_)
        rw [recBytes, List.length_map, List.length_map, List.length_range, List.length_range, Nat.add_mul])
      have e : reachBytes = 140737488351232 := rfl
      omega
    obtain ⟨Ls, hL⟩ := chosen (α := IRec) (m := len) (p := fun i r => ∃ (Av : Option Addr) (cv : Nat), W.cell? ((ad.add (i * 2)).add 0) = some (.int .i64 r.1) ∧ W.cell? ((ad.add (i * 2)).add 1) = some (.slice Av r.2.length cv) ∧ r.2.length ≤ cv ∧ SlAt W Av (u8v r.2) ∧ Bytes r.2 ∧ r.2.length ≤ 140737488355328) (fun i hi => by
      obtain ⟨cs, hcs, ht⟩ := hcell i (by omega)
      obtain ⟨c0, c1, rfl, k0, k1⟩ := cells2 hcs
      obtain ⟨y0, y1, m, hy, h0, h1⟩ := open_list2 Tryd.underlying50 (by kernel_rfl) ht
      obtain ⟨s, e0, _, w0⟩ := DataW.trod_int Tryd.underlying3 h0
      have hD : D i = .agg [y0.1, y1.1] := congrArg Prod.fst hy
      obtain ⟨a0, c, l, rfl, h4, h5, h6, h7⟩ := open_u8 h1 (fun n hn => hw i hi n (by
        rw [hD, DataW.weights, Tryd.underlying50]
        exact DataW.weights_mem_each (j := 1) rfl rfl n hn))
      simp at e0
      subst e0
      exact ⟨(s, l), a0, c, k0, k1, h4, h7, h6, h5⟩)
    refine ⟨some ad, cap, (List.range len).map Ls, by rw [List.length_map, List.length_range], by rw [List.length_map, List.length_range]; exact hl, by rw [List.length_map, List.length_range]; exact hlen, fun r hr => ?_, fun i l hi => ?_⟩
    · obtain ⟨j, hj, rfl⟩ := List.mem_map.1 hr
      obtain ⟨_, _, _, _, _, _, _, h8⟩ := hL j (List.mem_range.1 hj)
      exact h8
    · rw [List.getElem?_map, Option.map_eq_some_iff] at hi
      obtain ⟨j, hj, rfl⟩ := hi
      obtain ⟨hj1, hj2⟩ := List.getElem?_eq_some_iff.1 hj
      rw [List.length_range] at hj1
      rw [List.getElem_range] at hj2
      subst hj2
      obtain ⟨Av, cv, k0, k1, h4, h5, h6, _⟩ := hL i hj1
      rw [add_add] at k0 k1
      exact ⟨ad, Av, cv, rfl, by have := World.block_lt_of_cell? _ _ k0; rwa [add_block] at this, trivial, k0, k1, h4, h5, fun _ _ => trivial, h6⟩
end
end Go.Proofs.YtpmjlaiafgbjgaaDoor.Base
end
section
namespace Go.Proofs.YtpmjlaiafgbjgaaDoor.journalChained
open Go.ChangeShapes Go.WideShapes Go.ChangeAt Go.RowKit
set_option maxRecDepth 100000 in
theorem contract (H : Type) (enc : TypeId × Value → H) (W : World) (base : Nat) (args : Array Value) (ds gs : List (DataW H)) (before : List MemPlace)
    (hval : ∀ (j : Nat) t v, Tryd.f7.params[j]? = some t → args[j]? = some v → Value.okWide Tryd.prog W .any base t v)
    (hW : DataW.Whole enc Tryd.prog Tryd.f7.params.toList Rows.journalChainedSpec.vars false W args.toList ds gs before)
    (hsz : (DataW.weightsEach Tryd.prog (Tryd.f7.params.toList ++ (Rows.OpenSpec.upto Rows.journalChainedSpec).bare.plain.varTypes Tryd.prog) (ds ++ gs)).all (· ≤ reachBytes) = true) (hL : laidMetH Tryd.prog Rows.journalChainedUptoRow.laid W) :
    Calls Tryd.prog 7 args W fun e W' => ∃ v, e = .returned v ∧ Rows.journalChainedSpec.post enc Tryd.prog Tryd.f7 false true false false W args v W' := by
  have hW' := hW
  obtain ⟨p, q, hA0, hV, rfl, hfz, hnd⟩ := hW
  have hA : DataW.TrodAll enc Tryd.prog W 0 (fun _ => true) true Tryd.f7.params.toList args.toList ds p := hA0
  rw [Tryd.params7] at hA hval hsz
  obtain ⟨v0, vs0, d0, ds0, p0, q0, hargs, rfl, rfl, h0, r0⟩ := trodAll_cons hA
  obtain ⟨v1, vs1, d1, ds1, p1, q1, rfl, rfl, rfl, h1, r1⟩ := trodAll_cons r0
  obtain ⟨v2, vs2, d2, ds2, p2, q2, rfl, rfl, rfl, h2, r2⟩ := trodAll_cons r1
  obtain ⟨v3, vs3, d3, ds3, p3, q3, rfl, rfl, rfl, h3, r3⟩ := trodAll_cons r2
  obtain ⟨rfl, rfl, rfl⟩ := trodAll_nil r3
  obtain rfl : args = #[v0, v1, v2, v3] := by cases args; simp_all
  obtain ⟨rfl, rfl⟩ := trodVars_none hV
  obtain ⟨A0, c0, l0, rfl, hc0, hn0, hz0, hm0⟩ := Base.open_recs (hval 0 31 v0 rfl rfl) h0 (Base.wt_of hsz (j := 0) rfl rfl)
  obtain ⟨n1, rfl, rfl, rfl, w1⟩ := open_int Tryd.underlying3 (hval 1 3 v1 rfl rfl) h1
  obtain ⟨n2, rfl, rfl, rfl, w2⟩ := open_int Tryd.underlying3 (hval 2 3 v2 rfl rfl) h2
  obtain ⟨n3, rfl, rfl, rfl, w3⟩ := open_int Tryd.underlying3 (hval 3 3 v3 rfl rfl) h3
  clear hA0
  simp only [List.append_nil] at hW'
  have hlt : ∀ x, x ∈ p0 → x.block < W.heap.size := fun x hx => hW'.lt x (by simpa using hx)
  refine (jchained_walk _ A0 c0 l0 hn0 hz0 n1 n2 n3 W (Base.fmS hL) hm0).mono fun e W' ⟨he, bel⟩ => ?_
  subst he
  exact ⟨_, rfl, _, _, _, [], _, [], hW', trodAll_mk1 (shut_bool Tryd.underlying4 _), (trodAll_cons_mk (Below.trod Base.laidOut (by kernel_rfl) (of_decide_eq_true (by kernel_rfl)) h0 bel (fun x hx => hlt x hx)) (trodAll_cons_mk (shut_int Tryd.underlying3 w1) (trodAll_cons_mk (shut_int Tryd.underlying3 w2) (trodAll_cons_mk (shut_int Tryd.underlying3 w3) trodAll_mk0)))), rfl, Below.frame bel _, fun h => by cases h⟩
theorem laid_met (os : Os) : laidMet Tryd.prog Rows.journalChainedUptoRow.laid ((Base.laidWorld os).forCall (fun _ _ => 0) ⟨#[], #[Value.slice none 0 0, Value.int .i64 0, Value.int .i64 0, Value.int .i64 0], []⟩).memory :=
  laidMet_of_run' 8 (by kernel_rfl) (by kernel_rfl)
theorem reads (os : Os) {H : Type} (enc : TypeId × Value → H) : ∃ places, DataW.whole enc Tryd.prog ((Base.laidWorld os).forCall (fun _ _ => 0) ⟨#[], #[Value.slice none 0 0, Value.int .i64 0, Value.int .i64 0, Value.int .i64 0], []⟩).memory Tryd.f7.params.toList Rows.journalChainedSpec.vars false (#[Value.slice none 0 0, Value.int .i64 0, Value.int .i64 0, Value.int .i64 0] : Array Value).toList 8 = some ([.nil, .lit (.int .i64 0), .lit (.int .i64 0), .lit (.int .i64 0)], [], places) :=
  ⟨[], by kernel_rfl⟩
set_option maxRecDepth 100000 in
theorem lifted (os : Os) (started : os.Started) (H : Type) (enc : TypeId × Value → H) (F : Stop.Interp) :
    ReturnsInHanded {} Tryd.checked os 7 .any ((Rows.OpenSpec.upto Rows.journalChainedSpec).preRow enc Tryd.prog Tryd.f7 Rows.journalChainedUptoRow.domain false Rows.journalChainedUptoRow.laid) (((Rows.OpenSpec.upto Rows.journalChainedSpec).at F).post enc Tryd.prog Tryd.f7 false true false false) := by
  obtain ⟨places, hx⟩ := reads os enc
  refine returnsInHanded_of_row (C := Tryd.checked) (s := Rows.OpenSpec.upto Rows.journalChainedSpec) Base.own started (by kernel_rfl) Tryd.func7
    (witness_row_at (enc := enc) (C := Tryd.checked) false (Base.laidWorld os) #[Value.slice none 0 0, Value.int .i64 0, Value.int .i64 0, Value.int .i64 0] rfl (by kernel_rfl) (by kernel_rfl) (by kernel_rfl)
      (OpenSpec.preRow_of_cond 8 hx (by kernel_rfl) (fun k hk => by injection hk with hk; subst hk; kernel_rfl) (by kernel_rfl) (laid_met os))) ?_
  intro W base args ds gs before hval hW _ _ hsz hL _ _
  exact contract H enc W base args ds gs before hval hW hsz hL
theorem said : Rows.JournalChainedUptoSaid :=
  OpenClaim.holds_of_cond 7 Tryd.f7 rfl rfl rfl rfl rfl rfl rfl ⟨rfl, rfl, rfl, rfl, rfl⟩ rfl rfl rfl rfl rfl (by kernel_rfl) Tryd.func7 (by kernel_rfl)
    (of_decide_eq_true (by kernel_rfl)) (by unfold Func.isWrapper; first | (rw [if_pos (by decide +kernel)]; kernel_rfl) | (rw [if_neg (by decide +kernel)]; exact ⟨rfl, rfl⟩))
    (fun os started H enc _ F => by rw [OpenClaim.pre_eq_preRow]; exact lifted os started H enc F)
theorem plain (f : FuncId) (fn : Func) (hf : Tryd.pinned.checked.prog.funcNamed "binnacle/binnaclelaw22.JournalChained" = some f) (hfn : Tryd.pinned.checked.prog.funcs[f]? = some fn) :
    false = Tryd.pinned.checked.prog.looks [] ∧ ∀ (j : Nat) t, fn.params[j]? = some t → Tryd.pinned.checked.prog.wantsStandIn t = false := by
  obtain rfl : f = 7 := Option.some.inj ((show Tryd.prog.funcNamed "binnacle/binnaclelaw22.JournalChained" = some 7 by kernel_rfl).symm.trans hf) |>.symm
  obtain rfl : fn = Tryd.f7 := (Option.some.inj (Tryd.func7.symm.trans hfn)).symm
  refine ⟨by kernel_rfl, fun j t ht => ?_⟩
  rw [Tryd.params7] at ht
  have hm := Array.mem_of_getElem? ht
  have hm' : t = 31 ∨ t = 3 ∨ t = 3 ∨ t = 3 := by simpa using hm
  rcases hm' with rfl | rfl | rfl | rfl
  · exact (show Tryd.prog.wantsStandIn 31 = false by kernel_rfl)
  · exact (show Tryd.prog.wantsStandIn 3 = false by kernel_rfl)
  · exact (show Tryd.prog.wantsStandIn 3 = false by kernel_rfl)
  · exact (show Tryd.prog.wantsStandIn 3 = false by kernel_rfl)
theorem card : Rows.JournalChainedUptoCardSaid :=
  Claim7.holds_tied_plain_at .later [] _ _ _ _ said (fun _ h => by cases h) (by kernel_rfl) (fun _ h => by cases h) journalChainedUpto_row_tie rfl ⟨rfl, rfl⟩ (by kernel_rfl) rfl plain (by kernel_rfl)
#print axioms card
end Go.Proofs.YtpmjlaiafgbjgaaDoor.journalChained
end
