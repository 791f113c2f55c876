/- The card of JournalFresh: whatever the input, the call returns true and the input reads as it did; the format holds what the program's text lays. -/
import Derived.Test.YtpmjlaiafgbjgaaGreatDoorRows
import Derived.WalkKit
import Derived.WalkSpells
import Derived.WalkLawsBesides
import Derived.BigQuiet
import Derived.Lib.Hide
import Ieee.Arith
import Derived.Lib.TrailingZeros
import Derived.Lib.BitFns
import Derived.Lib.Strings
import Derived.Lib.Slices
import Derived.Lib.Small
import Derived.Lib.Walk
import Derived.OwnWalk
import Derived.Maps.AppendAt
import Derived.Laws.OwnMore
import Derived.Deep.AppendLies
import Derived.Deep.Draws
import Derived.OrdersHeld
import Derived.StillTail
import Derived.Deep.RegionHeld3
import Derived.Deep.DeepCutAuto
import Derived.IntWalk
import Derived.Maps.Range
import Derived.Maps.RangeWalk
import Derived.Laws.BytesArg
import Derived.Laws.Strings
import Derived.Lib.SlBytesConst
import Derived.RangeFuncNested
import Derived.RangeFuncBound
import Derived.RangeFuncCalls
import Derived.RangeFuncLeaves
import Derived.OwnWalkIn
import Derived.Shelf.Abstract
import Derived.Shelf.RegionOpen
import Derived.TacticsInMore
import Derived.LoopNIn
import Derived.LoopIn
import Derived.RangeFuncBox
import Derived.Laws.IdiomStrings
import Derived.Test.YtpmjlaiafgbjgaaGreatDoorCards
import Derived.Test.YtpmjlaiafgbjgaaGreatDoorTie
import Derived.ProofKit
import Derived.OpenShut
import Derived.ShutString
import Derived.ChangeOld
import Derived.ChangeSlices
import Derived.Below
import Derived.Carry
import Derived.SizedLaws
import Derived.Deep.DeepHandedRow
import Derived.Deep.Strs
import Derived.Lib.LaidTab
import Derived.Lib.SmallJoins
import Derived.Deep.Slices
import Derived.Test.YtpmjlaiafgbjgaaGreatDoorZFresh6
set_option linter.unusedVariables false
set_option linter.unusedSimpArgs false
section
namespace Go.Proofs.YtpmjlaiafgbjgaaGreatDoor
open Go.RowKit
attribute [local go_sem] Oper.semAt_some
structure RgB (w : World) (q xb yb : Nat) (k : Int) (D : Option Addr) (nd cd : Nat) (W : World) : Prop where
  x : Boxed W q 23 (.pointer (some ⟨xb, 0, none⟩))
  y : Boxed W (q + 1) 25 (.pointer (some ⟨yb, 0, none⟩))
  r0 : W.cell? ⟨q + 1 + 1, 0, none⟩ = some (.int .i64 k)
  r1 : W.cell? ⟨q + 1 + 1, 1, none⟩ = some (.slice D nd cd)
  v : Boxed W (q + 1 + 1 + 1) 4 (.bool false)
theorem RgB.grown {w : World} {q xb yb : Nat} {k : Int} {D : Option Addr} {nd cd : Nat} {W W' : World} {row : Option Nat} (h : RgB w q xb yb k D nd cd W) (hg : W.grownBy W' row) (hr : NotCells W row) : RgB w q xb yb k D nd cd W' :=
  ⟨boxed_away h.x hg hr, boxed_away h.y hg hr, cell_kept h.r0 hg hr, cell_kept h.r1 hg hr, boxed_away h.v hg hr⟩
theorem RgB.keep {w : World} {q xb yb : Nat} {k : Int} {D : Option Addr} {nd cd : Nat} {W W' : World} (h : RgB w q xb yb k D nd cd W) (hk : ∀ j, q ≤ j → j < q + 4 → W'.heap[j]? = W.heap[j]?) : RgB w q xb yb k D nd cd W' :=
  ⟨(hk _ (by omega) (by omega)).trans h.x, (hk _ (by omega) (by omega)).trans h.y, (World.cell?_of_block (hk (q + 1 + 1) (by omega) (by omega))).trans h.r0, (World.cell?_of_block (hk (q + 1 + 1) (by omega) (by omega))).trans h.r1, (hk _ (by omega) (by omega)).trans h.v⟩
theorem RgB.lt {w : World} {q xb yb : Nat} {k : Int} {D : Option Addr} {nd cd : Nat} {W : World} (h : RgB w q xb yb k D nd cd W) : q + 1 + 1 + 1 < W.heap.size := h.v.lt
theorem RgB.of {w : World} {q xb yb : Nat} {k : Int} {D : Option Addr} {nd cd : Nat} {W W' : World} (h : RgB w q xb yb k D nd cd W) (k' : Within W W') : RgB w q xb yb k D nd cd W' := h.keep fun j _ hj => k'.block j (by have := h.lt; omega)
theorem wiped {wz w : World} {q xb yb : Nat} {rs rt : List Rec} {k : Int} {D : Option Addr} {nd cd : Nat} {X : Nat → Prop} {W W' : World} {n g N : Nat} (hP : Pair wz W xb yb rs rt (fun j => X j ∨ (N ≤ j ∧ j < W.heap.size))) (hB : RgB w q xb yb k D nd cd W) (hk : ButS (fun b => 0 < n ∧ b = g) W W') (hg : 0 < n → N ≤ g ∧ g < W.heap.size) (hq : q + 4 ≤ N) (hw : wz.heap.size ≤ N) : Pair wz W' xb yb rs rt X ∧ RgB w q xb yb k D nd cd W' := by
  refine ⟨(hP.butS hk (fun j hj => ?_)).weak (fun j hj => .inl hj), hB.keep fun j _ hj => hk.block j (by have := hB.lt; omega) (fun h => by have := (hg h.1).1; have := h.2; omega)⟩
  obtain ⟨h1, rfl⟩ := hj
  have := hg h1
  exact ⟨.inr this, by omega⟩
structure RgI (wz w : World) (q xb yb : Nat) (rs : List Rec) (k : Int) (D : Option Addr) (nd cd : Nat) (X : Nat → Prop) (pb : Nat) (pre : List Yd) (W : World) : Prop where
  b : RgB w q xb yb k D nd cd W
  p : Pair wz W xb yb rs rs X
  cx : W.cell? ⟨pb, 0, none⟩ = some (.pointer (some ⟨xb, 0, none⟩))
  cf : W.cell? ⟨pb + 1, 0, none⟩ = some (.int .i64 0)
theorem RgI.own (wz w : World) (q xb yb : Nat) (rs : List Rec) (k : Int) (D : Option Addr) (nd cd : Nat) (X : Nat → Prop) (p : Nat) {B : Nat} (hB : wz.heap.size ≤ B) : OwnFrom B (RgI wz w q xb yb rs k D nd cd X p) := by
  rintro s A C row ⟨h1, h2, h3, h4⟩ hg hr
  have hr' : NotCells A row := fun r e => (hr r e).2
  exact ⟨h1.grown hg hr', h2.away hg (fun r e => ⟨Nat.le_trans hB (hr r e).1, (hr r e).2⟩), cell_kept h3 hg hr', cell_kept h4 hg hr'⟩
def RgX (wz : World) (q xb yb : Nat) (rs : List Rec) (X : Nat → Prop) (p : Nat) (a : Nat → Value → Value → Act) (_ : List Yd) (x : Yd) (a' : Act) (W : World) : Prop := ∃ (Bx : Nat) (A : Option Addr) (c n g N : Nat), n ≤ c ∧ n ≤ 1048576 ∧ W.heap[Bx]? = some (.cells #[.int .i64 x.k, .slice A n c] 30 (0, 0)) ∧ p + 2 ≤ N ∧ q + 4 ≤ N ∧ wz.heap.size ≤ N ∧ Pair wz W xb yb rs rs (fun j => X j ∨ (N ≤ j ∧ j < W.heap.size)) ∧ (0 < n → A = some ⟨g, 0, none⟩ ∧ (N ≤ g ∧ g < W.heap.size) ∧ U8s W g n) ∧ a' = a Bx (.int .i64 (x.i : Int)) (.agg #[.int .i64 x.k, .slice A n c])
theorem RgX.own (wz : World) (q xb yb : Nat) (rs : List Rec) (X : Nat → Prop) (p : Nat) (a : Nat → Value → Value → Act) (pre : List Yd) (x : Yd) (a' : Act) {B : Nat} (hB : wz.heap.size ≤ B) : OwnFrom B (fun (_ : Unit) W => RgX wz q xb yb rs X p a pre x a' W) := by
  rintro s A C row ⟨Bx, A', c, n, g, N, h1, h2, h3, h4, h5, h5', h6, h7, h8⟩ hg hr
  have hr' : NotCells A row := fun r e => (hr r e).2
  refine ⟨Bx, A', c, n, g, N, h1, h2, (grown_cells hg hr' h3).trans h3, h4, h5, h5', ?_, fun h => ⟨(h7 h).1, ⟨(h7 h).2.1.1, Nat.lt_of_lt_of_le (h7 h).2.1.2 hg.size⟩, (h7 h).2.2.away h hg hr'⟩, h8⟩
  obtain ⟨⟨S, Sy, k1, k2, k3, k4⟩, k5, k6, k7, k8⟩ := h6
  have h9 := Pair.away ⟨⟨S, Sy, k1, k2, k3, k4⟩, k5, k6, k7, k8⟩ hg (fun r e => ⟨Nat.le_trans hB (hr r e).1, (hr r e).2⟩)
  obtain ⟨⟨S', Sy', m1, m2, m3, m4⟩, m5, m6, m7, m8⟩ := h9
  exact ⟨⟨S, Sy, k1.away hg hr', k2.away hg hr', k3, fun j hj => ⟨⟨(k4 j hj).1.1, Nat.lt_of_lt_of_le (k4 j hj).1.2 hg.size⟩, fun hx => (k4 j hj).2 (by rcases hx with hx | hx; exact .inl hx; exact .inr ⟨hx.1, (k4 j hj).1.2⟩)⟩⟩, m5, m6, m7, m8⟩
theorem Within.keepsFrom {w w' : World} (h : Within w w') (B : Nat) : KeepsFrom B w w' := ⟨h.size, fun k o _ hk _ => (h.block k (Array.getElem?_eq_some_iff.1 hk).1).trans hk⟩
theorem KeepsFrom.up {w w' : World} (h : KeepsFrom 0 w w') (B : Nat) : KeepsFrom B w w' := ⟨h.size, fun k o _ hk ho => h.same k o (Nat.zero_le _) hk ho⟩
theorem rbytes_pair (wz : World) (xb yb : Nat) (rs : List Rec) (X : Nat → Prop) (w : World) (h : Pair wz w xb yb rs rs X) : Calls Tryz.prog 42 #[.pointer (some ⟨yb, 0, none⟩)] w fun e w' => ∃ v, e = .returned v ∧ OwnB w' w.heap.size v (logV rs) ∧ Within w w' := by
  obtain ⟨S, Sy, h1, h2, h3, h4⟩ := h.ex
  exact Rbytes_log Sy yb rs h.ok h.le w h2
structure RjI (wz w : World) (q xb yb : Nat) (ra : List Rec) (k : Int) (D : Option Addr) (nd cd : Nat) (X : Nat → Prop) (pb pm D1 : Nat) (pre : List Yd) (W : World) : Prop where
  b : RgB w q xb yb k D nd cd W
  m : Boxed W pm 3 (.int .i64 (pre.length : Int))
  p : ∃ ex, Pair wz W xb yb (ra ++ ex) ra X ∧ (pre = [] → ex = [])
  cx : W.cell? ⟨pb, 0, none⟩ = some (.pointer (some ⟨xb, 0, none⟩))
  cf : W.cell? ⟨pb + 1, 0, none⟩ = some (.int .i64 0)
  d : W.heap[D1]? = some (.deferred (some []))
  y : YdP ra 0 pre
theorem RjI.own (wz w : World) (q xb yb : Nat) (ra : List Rec) (k : Int) (D : Option Addr) (nd cd : Nat) (X : Nat → Prop) (pb pm D1 : Nat) {B : Nat} (hB : wz.heap.size ≤ B) (hD : D1 < B) : OwnFrom B (RjI wz w q xb yb ra k D nd cd X pb pm D1) := by
  rintro s A C row ⟨h1, h2, ⟨ex, h3, h4⟩, h5, h6, h7, h8⟩ hg hr
  have hr' : NotCells A row := fun r e => (hr r e).2
  exact ⟨h1.grown hg hr', boxed_away h2 hg hr', ⟨ex, h3.away hg (fun r e => ⟨Nat.le_trans hB (hr r e).1, (hr r e).2⟩), h4⟩, cell_kept h5 hg hr', cell_kept h6 hg hr', (hg.block _ (Array.getElem?_eq_some_iff.1 h7).1 (fun e => by have := (hr _ e.symm).1; omega)).trans h7, h8⟩
def RjX (B : Nat) (ra : List Rec) (a : Nat → Value → Value → Act) (pre : List Yd) (x : Yd) (a' : Act) (W : World) : Prop := ∃ (Bx : Nat) (A : Option Addr) (c : Nat) (r : Rec), ra[pre.length]? = some r ∧ YdP ra 0 (pre ++ [x]) ∧ x.k = (r.kind : Int) ∧ r.data.length ≤ c ∧ B ≤ Bx ∧ W.heap[Bx]? = some (.cells #[.int .i64 (r.kind : Int), .slice A r.data.length c] 30 (0, 0)) ∧ SlAt W A (u8v r.data) ∧ a' = a Bx (.int .i64 (pre.length : Int)) (.agg #[.int .i64 (r.kind : Int), .slice A r.data.length c])
theorem RjX.own (B' : Nat) (ra : List Rec) (a : Nat → Value → Value → Act) (pre : List Yd) (x : Yd) (a' : Act) (B : Nat) : OwnFrom B (fun (_ : Unit) W => RjX B' ra a pre x a' W) := by
  rintro s A C row ⟨Bx, A', c, r, h1, h2, h3, h4, h4', h5, h6, h7⟩ hg hr
  have hr' : NotCells A row := fun r e => (hr r e).2
  exact ⟨Bx, A', c, r, h1, h2, h3, h4, h4', (grown_cells hg hr' h5).trans h5, h6.away hg hr', h7⟩
set_option maxRecDepth 100000 in
set_option maxHeartbeats 4000000 in
theorem ranges_pair (wz w : World) (xb yb : Nat) (rs : List Rec) (hP : Pair wz w xb yb rs rs NoX) (k : Int) (D : Option Addr) (cd : Nat) (d : List Nat) (hb : Bytes d) (hcd : d.length ≤ cd) (hdl : d.length ≤ 140737488355328) (hT : FmS wz) (hr : SlAt wz D (u8v d)) : Calls Tryz.prog 29 #[.pointer (some ⟨xb, 0, none⟩), .pointer (some ⟨yb, 0, none⟩), .agg #[.int .i64 k, .slice D d.length cd]] w fun e w' => e = .returned (.bool true) ∧ Within wz w' := by
  obtain ⟨q, hq⟩ : ∃ q, w.heap.size = q := ⟨_, rfl⟩
  obtain ⟨nd, hnd⟩ : ∃ n, d.length = n := ⟨_, rfl⟩
  have HND := Lib.hid hnd
  obtain ⟨Wa, hWa⟩ : ∃ V, V = w.alloc (.cells #[.pointer (some ⟨xb, 0, none⟩)] 23) := ⟨_, rfl⟩
  have sa : Wa.heap.size = q + 1 := by rw [hWa]; simp [hq]
  obtain ⟨Wb, hWb⟩ : ∃ V, V = Wa.alloc (.cells #[.pointer (some ⟨yb, 0, none⟩)] 25) := ⟨_, rfl⟩
  have sb : Wb.heap.size = q + 1 + 1 := by rw [hWb]; simp [sa]
  obtain ⟨Wc, hWc⟩ : ∃ V, V = Wb.alloc (.cells #[.int .i64 k, .slice D nd cd] 30) := ⟨_, rfl⟩
  have sc : Wc.heap.size = q + 1 + 1 + 1 := by rw [hWc]; simp [sb]
  obtain ⟨W1, hW1⟩ : ∃ V, V = Wc.alloc (.cells #[.bool false] 4) := ⟨_, rfl⟩
  have s1 : W1.heap.size = q + 1 + 1 + 1 + 1 := by rw [hW1]; simp [sc]
  have i1 : Within w W1 := by rw [hW1, hWc, hWb, hWa]; exact ((((Within.refl w).alloc _).alloc _).alloc _).alloc _
  have hB : RgB w q xb yb k D nd cd W1 := ⟨by rw [hW1, hWc, hWb, hWa, ← hq]; exact (((Boxed.new w _ _).alloc _).alloc _).alloc _, by rw [hW1, hWc, hWb, ← sa]; exact ((Boxed.new Wa _ _).alloc _).alloc _, by rw [hW1]; refine (Within.cells ((Within.refl Wc).alloc _) _ _ (by omega)).trans ?_; rw [hWc, ← sb]; simp, by rw [hW1]; refine (Within.cells ((Within.refl Wc).alloc _) _ _ (by omega)).trans ?_; rw [hWc, ← sb]; simp, by rw [hW1, ← sc]; exact Boxed.new Wc _ _⟩
  have hP1 := hP.of i1
  have hPP := hP; have iPP := i1
  have hlog := logV_le (fun r hr => (hP.ok r hr).parts.2.2) hP.le
  have hlb := log_bytes hP.ok
  have HB := Lib.hid hB; have HW1 := Lib.hid (show W1 = (((w.alloc (.cells #[.pointer (some ⟨xb, 0, none⟩)] 23)).alloc (.cells #[.pointer (some ⟨yb, 0, none⟩)] 25)).alloc (.cells #[.int .i64 k, .slice D nd cd] 30)).alloc (.cells #[.bool false] 4) by rw [hW1, hWc, hWb, hWa]); clear hB hP1 hWa hWb hWc hW1 sa sb sc i1 hP
  obtain ⟨mb, hmb⟩ : ∃ m, (logV rs).length = m := ⟨_, rfl⟩
  have HMB := Lib.hid hmb
  rw [hmb] at hlog
  rw [hnd] at hcd ⊢
  clear hnd hmb
  refine (callsIn_wide (n := 3)).1 ?_
  refine callsIn_of_wp_marks Tryz.func29 rfl trivial ?_ rfl
  simp only [Tryz.ntmps29, List.size_toArray, List.length_cons, List.length_nil, Nat.reduceAdd, Nat.reduceSub, Array.replicate_succ, Array.replicate_zero, List.push_toArray, List.append_toArray, List.nil_append, List.cons_append]
  obtain ⟨X0, hX0⟩ : ∃ X : Nat → Prop, (fun j => q ≤ j ∧ j < q + 4) = X := ⟨_, rfl⟩
  have HP0 : Hid (Pair wz W1 xb yb rs rs X0) := Lib.hid (by rw [← hX0]; exact (hPP.fresh iPP).weak (fun j hj => by omega))
  have HX0 : Hid (∀ j, X0 j → j < q + 4) := Lib.hid (fun j hj => by rw [← hX0] at hj; exact hj.2)
  have HX0b : Hid (∀ j, q ≤ j → j < q + 4 → X0 j) := Lib.hid (fun j h1 h2 => by rw [← hX0]; exact ⟨h1, h2⟩)
  have hwq : wz.heap.size ≤ q := by rw [← hq]; exact hPP.bel.size
  clear hX0 hPP iPP
  gi_wp2_with (refine ⟨trivial, ?_⟩; gi_at_call 14; rw [← HW1.out]; refine (callsIn_wide.2 (bytes_pair wz xb yb rs rs X0 W1 HP0.out)).mono ?_; rintro e2 w2 ⟨v2, rfl, hO2, h2⟩; obtain ⟨A2, c2, g2, rfl, hc2, hg2, _, hU2, _⟩ := hO2.u8s hlb W1.heap.size (Nat.le_refl _); rw [HMB.out] at hc2 hU2 ⊢)
  have hP2 := HP0.out.more h2
  have hB2 := HB.out.of h2
  have HP2 := Lib.hid hP2; have HB2 := Lib.hid hB2; have HG2 := Lib.hid hg2; have HU2 := Lib.hid hU2; have H12 := Lib.hid h2.size; clear hP2 hB2 hg2 h2 hO2
  gi_wp2_with (refine ⟨trivial, ?_⟩; gi_at_call 21; refine (callsIn_wide.2 (wipe_any A2 c2 mb g2 (by omega) hc2 w2 HU2.out)).mono ?_; rintro e3 w3 ⟨⟨v3, rfl⟩, hk3, _⟩; obtain ⟨hP3, hB3⟩ := wiped (N := W1.heap.size) HP2.out HB2.out hk3 (fun h => ⟨HG2.out, (HU2.out h).2.1⟩) (by omega) (by omega); have x3 := hB3.x.cell; have x3f := hB3.x.frozen; have x3l := hB3.x.lt; have HP3 := Lib.hid hP3; have HB3 := Lib.hid hB3; have H13 := Lib.hid (Nat.le_trans H12.out hk3.size); clear hP3 hB3 hk3)
  gi_wp2_with (refine ⟨trivial, ?_⟩; gi_at_call 37; refine (callsIn_wide.2 (Each_any _ _ _)).mono ?_; rintro e4 w4 ⟨rfl, rfl⟩)
  obtain ⟨p, hp⟩ : ∃ q, w3.heap.size = q := ⟨_, rfl⟩
  obtain ⟨Vx, hVx⟩ : ∃ V, V = w3.alloc (.cells #[.pointer (some ⟨xb, 0, none⟩)] 23) := ⟨_, rfl⟩
  have sVx : Vx.heap.size = p + 1 := by rw [hVx]; simp [hp]
  obtain ⟨V, hV⟩ : ∃ V, V = Vx.alloc (.cells #[.int .i64 0] 3) := ⟨_, rfl⟩
  have sV : V.heap.size = p + 1 + 1 := by rw [hV]; simp [sVx]
  have iV : Within w3 V := by rw [hV, hVx]; exact ((Within.refl _).alloc _).alloc _
  have cxV : V.cell? ⟨p, 0, none⟩ = some (.pointer (some ⟨xb, 0, none⟩)) := by rw [hV]; refine (Within.cells ((Within.refl Vx).alloc _) _ _ (by omega)).trans ?_; rw [hVx, ← hp]; simp
  have cfV : V.cell? ⟨p + 1, 0, none⟩ = some (.int .i64 0) := by rw [hV, ← sVx]; simp
  rw [hp, ← hVx, ← hV]
  have hI1 : RgI wz w q xb yb rs k D nd cd X0 p [] V := ⟨HB3.out.of iV, HP3.out.of iV, cxV, cfV⟩
  have HI1 := Lib.hid hI1; have H13 := H13.out; clear hV hVx hI1 cxV cfV iV sVx x3 x3f x3l
  refine range_G rfl (by decide) (gf := 61) (lb := #[.pointer (some ⟨p, 0, none⟩), .pointer (some ⟨p + 1, 0, none⟩)]) rfl trivial (enters_of Tryz.func61 (by kernel_rfl) rfl)
    (Each1_G xb p (p + 1) 0 0 (by decide) (rs) (fun r hr => ⟨(HP0.out.ok r hr).parts.2.2, (HP0.out.ok r hr).bytes⟩) HP0.out.le) (fun _ => rfl)
    (RgI wz w q xb yb rs k D nd cd X0 p) (fun _ _ _ => False) (RgI.own _ _ _ _ _ _ _ _ _ _ _ _ (by omega)) (fun c s A B row h _ _ => h)
    (fun pre W h => ⟨by obtain ⟨S, Sy, h1, _⟩ := h.p.ex; exact ⟨S, [], by rw [List.append_nil]; exact h1, fun _ => rfl⟩, h.cx, h.cf⟩) HI1.out (RgX wz q xb yb rs X0 p (fun Bx iv rv => { tmps := #[.pointer (some ⟨xb, 0, none⟩), .pointer (some ⟨yb, 0, none⟩), .agg #[.int .i64 k, .slice D nd cd], .pointer (some ⟨q, 0, none⟩), .pointer (some ⟨q + 1, 0, none⟩), .pointer (some ⟨q + 1 + 1, 0, none⟩), .pointer (some ⟨q + 1 + 1 + 1, 0, none⟩), undef, .pointer (some ⟨Bx, 0, none⟩), undef, undef, undef, undef, undef, undef, undef, undef, .pointer (some ⟨xb, 0, none⟩), .slice A2 mb c2, v3, .pointer (some ⟨xb, 0, none⟩), .func (.func 61) #[] #[.pointer (some ⟨p, 0, none⟩), .pointer (some ⟨p + 1, 0, none⟩)], iv, rv, undef, undef, undef, undef, undef, undef, undef, undef, undef, undef, undef, undef, undef, undef, undef, undef, undef, undef, undef, undef, undef, undef, undef, undef, undef, undef, undef, undef, undef, undef, undef, undef, undef, undef, undef, undef, undef, undef, undef, undef, undef, undef, undef, undef, undef, undef, undef, undef, undef, undef, undef, undef, undef, undef, undef, undef, undef, undef, undef, undef, undef, undef, undef, undef, undef, undef, undef, undef, undef, undef, undef, undef, undef, undef, undef, undef, undef], defers := [] })) (fun pre x a' => RgX.own _ _ _ _ _ _ _ _ _ _ _ (by omega)) ?assign ?body ?done ?stop
  case stop =>
    intro D' c pre W _ _ h _
    exact h.elim
  case assign =>
    rintro l pre ⟨i, k', v, d'⟩ W0 W K hI hW ⟨hY1, hO, hby, hdl'⟩ hlen hK
    have hO : OwnB W W0.heap.size v d' := hO
    have hby : Bytes d' := hby
    have hdl' : d'.length ≤ 1048576 := hdl'
    have hsz0 := hI.b.lt
    have hp0 : p + 1 < W0.heap.size := World.block_lt_of_cell? _ _ hI.cf
    obtain ⟨A, c, g, rfl, hc, hg, _, hU, _⟩ := hO.u8s hby W0.heap.size (Nat.le_refl _)
    dsimp only [Yd.enc]
    have HKK := Lib.hid hK; have HIW := Lib.hid ((RgI.own wz w q xb yb rs k D nd cd X0 p (B := V.heap.size) (by omega)) pre W0 W none hI (within_grown hW) (fun r e => by cases e)); have HPM := Lib.hid (hI.p.more (hW.alloc (.cells #[.int .i64 k', .slice A d'.length c] 30))); have HU := Lib.hid hU; have HW0 := Lib.hid hI.p.bel.size; clear hK hI hO hby hY1 hW hU
    gi_wp2
    exact HKK.out _ _ ((KeepsOthers.alloc _ _).from _) ((RgI.own wz w q xb yb rs k D nd cd X0 p (B := V.heap.size) (by omega)).alloc _ HIW.out) ⟨W.heap.size, A, c, d'.length, g, W0.heap.size, hc, hdl', World.alloc_heap_new W _, by omega, by omega, HW0.out, HPM.out, fun h => ⟨(HU.out h).1, ⟨hg, Nat.lt_of_lt_of_le (HU.out h).2.1 (by simp)⟩, (HU.out h).2.2.of ((Within.refl W).alloc _) (HU.out h).2.1⟩, rfl⟩
  case body =>
    rintro l pre ⟨i, k', v, d'⟩ a' W hI ⟨Bx, A, c, n, g, N, hc, hn, hcell, hpN, hqN, hwN, hPX, hU, rfl⟩ hlen
    have hcell : W.heap[Bx]? = some (.cells #[.int .i64 k', .slice A n c] 30 (0, 0)) := hcell
    have c1 : W.cell? ⟨Bx, 1, none⟩ = some (.slice A n c) := by simp [World.cell?, hcell]
    have cl : Bx < W.heap.size := (Array.getElem?_eq_some_iff.1 hcell).1
    have WP := Lib.hid (wipe_any A c n g (by omega) hc W (fun h => ⟨(hU h).1, (hU h).2.1.2, (hU h).2.2⟩))
    have HI := Lib.hid hI; have HPX := Lib.hid hPX; have HU := Lib.hid hU; clear hI hPX hU hcell
    gi_wp2_with (refine ⟨trivial, ?_⟩; gi_at_call 21; refine CallsIn.inRound l (callsIn_wide.2 (WP.out.mono ?_)); rintro e5 w5 ⟨⟨v5, rfl⟩, hk5, _⟩)
    have hkf := hk5.keepsFrom (fun b hb => by rw [hb.2]; exact (HU.out hb.1).2.2.block hb.1) V.heap.size
    obtain ⟨hP5, hB5⟩ := wiped HPX.out HI.out.b hk5 (fun h => (HU.out h).2.1) hqN hwN
    have nG : ∀ j, j < p + 2 → ¬ (0 < n ∧ j = g) := fun j hj h => by have := (HU.out h.1).2.1.1; have := h.2; omega
    have hlx : p < W.heap.size := World.block_lt_of_cell? _ _ HI.out.cx
    have hlf : p + 1 < W.heap.size := World.block_lt_of_cell? _ _ HI.out.cf
    have hI5 : RgI wz w q xb yb rs k D nd cd X0 p (pre ++ [⟨i, k', v, d'⟩]) w5 := ⟨hB5, hP5, (hk5.cells p 0 hlx (nG p (by omega))).trans HI.out.cx, (hk5.cells (p + 1) 0 hlf (nG (p + 1) (by omega))).trans HI.out.cf⟩
    exact ⟨hkf, hI5⟩
  case done =>
    rintro D1 xs W5 hD1 _ hI hK1
    have HB5 := Lib.hid hI.b; have HP5 := Lib.hid hI.p; have HK1 := Lib.hid hK1; clear hI hK1
    have hwV := H13
    obtain ⟨sl, hsl⟩ : ∃ s, strB (logV rs) = s := ⟨_, rfl⟩
    have ST : Hid (∀ W A' c', SlAt W A' (u8v (logV rs)) → (convert 28 9 (.slice A' mb c')).run Tryz.prog W = .ok (.string sl) W) := Lib.hid (fun W A' c' h => by rw [← HMB.out, ← hsl]; exact run_str A' c' (logV rs) W h)
    have es : (sl.toList != sl.toList) = false := by simp
    clear hsl
    have x5 := HB5.out.x.cell; have x5l := HB5.out.x.lt; have y5 := HB5.out.y.cell; have y5l := HB5.out.y.lt
    gi_wp2
    refine wpIn_region_shfW (Within W5) (fun W => W = W5) 6 (.firm 0 (.firm 3 (.one 1 (.turn (.sch (.firm 2 (.one 4 (.one 5 (.one 6 .nil))))))))) (by kernel_rfl) (by kernel_rfl) rfl ?_
    rintro w9 hw9
    rw [hw9]
    clear hw9
    try simp only [Act.put, List.setIfInBounds_toArray, List.set_cons_zero, List.set_cons_succ]
    iterate 2
      apply shf_firm rfl rfl ((Within.refl _).drew)
      · intro wq hq
        have g0 := (hq.cells q 0 x5l).trans x5
        have g1 := (hq.cells (q + 1) 0 y5l).trans y5
        have g2 := Nat.lt_of_lt_of_le x5l hq.size
        have g3 := Nat.lt_of_lt_of_le y5l hq.size
        clear hq
        go_simp
        rfl
      try simp only [Act.put, List.setIfInBounds_toArray, List.set_cons_zero, List.set_cons_succ]
    refine shf_one rfl rfl (fun K hK => ?_)
    go_simp
    refine (bytes_pair wz xb yb rs rs X0 _ (by exact HP5.out.of ((Within.refl _).drew))).mono ?_; rintro e6 w6 ⟨v6, rfl, hO6, h6⟩
    obtain ⟨A6, c6, rfl, _, hs6, _⟩ := hO6.form
    rw [HMB.out]
    have h56 : Within W5 w6 := ((Within.refl W5).drew).trans h6
    clear hO6 h6
    refine hK _ _ h56 ?_
    clear hK K
    try simp only [Act.put, List.setIfInBounds_toArray, List.set_cons_zero, List.set_cons_succ]
    refine shf_turn (Within w6) (fun _ h => h56.trans h) ?_
    refine shf_sch ?_
    apply sch_firm rfl rfl (Within.refl _)
    · intro wq hq
      have st1 := ST.out wq A6 c6 (hs6.of hq)
      clear hq
      go_simp
      rfl
    try simp only [Act.put, List.setIfInBounds_toArray, List.set_cons_zero, List.set_cons_succ]
    refine sch_one rfl rfl (fun K hK => ?_)
    go_simp
    refine (rbytes_pair wz xb yb rs X0 _ (by exact HP5.out.of h56)).mono ?_; rintro e7 w7 ⟨v7, rfl, hO7, h7⟩
    obtain ⟨A7, c7, rfl, _, hs7, _⟩ := hO7.form
    rw [HMB.out]
    have st2 := ST.out w7 A7 c7 hs7
    clear hO7
    refine hK _ _ (fun _ => h7) ?_
    clear hK K
    try simp only [Act.put, List.setIfInBounds_toArray, List.set_cons_zero, List.set_cons_succ]
    refine sch_one rfl rfl (fun K hK => ?_)
    go_simp
    refine hK _ _ (fun _ => h7) ?_
    clear hK K
    try simp only [Act.put, List.setIfInBounds_toArray, List.set_cons_zero, List.set_cons_succ]
    refine sch_one rfl rfl (fun K hK => ?_)
    go_simp
    refine hK _ _ (fun h => absurd h (by decide)) ?_
    clear hK K
    try simp only [Act.put, List.setIfInBounds_toArray, List.set_cons_zero, List.set_cons_succ]
    refine sch_nil ?_
    have h57 := h56.trans h7
    have HB7 := Lib.hid (HB5.out.of h57); have HP7 := Lib.hid (HP5.out.of h57); have HK7 := Lib.hid ((h57.block _ (Array.getElem?_eq_some_iff.1 HK1.out).1).trans HK1.out); have H57 := Lib.hid h57.size; clear h56 h57 h7 hs6 hs7 st2 x5 x5l y5 y5l
    have x7 := HB7.out.x.cell; have x7l := HB7.out.x.lt
    gi_wp2_with (refine ⟨trivial, ?_⟩; gi_at_call 37; refine (callsIn_wide.2 (Each_any _ _ _)).mono ?_; rintro e8 w8 ⟨rfl, rfl⟩)
    obtain ⟨p2, hp2⟩ : ∃ q, w7.heap.size = q := ⟨_, rfl⟩
    obtain ⟨Ux, hUx⟩ : ∃ V, V = w7.alloc (.cells #[.pointer (some ⟨xb, 0, none⟩)] 23) := ⟨_, rfl⟩
    have sUx : Ux.heap.size = p2 + 1 := by rw [hUx]; simp [hp2]
    obtain ⟨U, hU⟩ : ∃ V, V = Ux.alloc (.cells #[.int .i64 0] 3) := ⟨_, rfl⟩
    have sU : U.heap.size = p2 + 1 + 1 := by rw [hU]; simp [sUx]
    have iU : Within w7 U := by rw [hU, hUx]; exact ((Within.refl _).alloc _).alloc _
    have cxU : U.cell? ⟨p2, 0, none⟩ = some (.pointer (some ⟨xb, 0, none⟩)) := by rw [hU]; refine (Within.cells ((Within.refl Ux).alloc _) _ _ (by omega)).trans ?_; rw [hUx, ← hp2]; simp
    have cfU : U.cell? ⟨p2 + 1, 0, none⟩ = some (.int .i64 0) := by rw [hU, ← sUx]; simp
    rw [hp2, ← hUx, ← hU]
    obtain ⟨X2, hX2⟩ : ∃ X : Nat → Prop, (fun j => X0 j ∨ (w7.heap.size ≤ j ∧ j < U.heap.size)) = X := ⟨_, rfl⟩
    have hPU := HP7.out.more iU
    rw [hX2] at hPU
    have X2q : ∀ j, q ≤ j → j < q + 4 → X2 j := fun j h1 h2 => by rw [← hX2]; exact .inl (HX0b.out j h1 h2)
    have X2p : ∀ j, p2 ≤ j → j < p2 + 2 → X2 j := fun j h1 h2 => by rw [← hX2]; exact .inr ⟨by omega, by omega⟩
    have X2l : ∀ j, X2 j → j < U.heap.size := fun j hj => by rw [← hX2] at hj; rcases hj with hj | hj; have := HX0.out j hj; have := HB7.out.lt; omega; exact hj.2
    have HBU := Lib.hid (HB7.out.of iU); have HPU := Lib.hid hPU; have HKU := Lib.hid ((iU.block _ (Array.getElem?_eq_some_iff.1 HK7.out).1).trans HK7.out); have HX2q := Lib.hid X2q; have HX2p := Lib.hid X2p; have HX2l := Lib.hid X2l; have HCX := Lib.hid cxU; have HCF := Lib.hid cfU; have HSU := Lib.hid sU; have hD1p : D1 < p2 := by have := (Array.getElem?_eq_some_iff.1 HK7.out).1; omega
    have h7p : p2 = w7.heap.size := hp2.symm
    have hqp : q + 4 ≤ p2 := by have := HB7.out.lt; omega
    clear hX2 hPU X2q X2p X2l hU hUx hp2 iU sUx cxU cfU x7 x7l h7p
    have CP := Lib.hid (fun W (h : Within wz W) => copied_big k D cd d hdl W (hr.of h))
    rw [HND.out] at CP
    obtain ⟨⟨ra, v1, v2⟩, hav⟩ : ∃ t, appendV rs (k, d) = t := ⟨_, rfl⟩
    have APX := Lib.hid (fun X W rz rt hX h D' cd' hcd' hT' hr' => appx2 wz xb yb rz rt X W hX h D' cd' k d hb hcd' hdl hT' hr')
    have APY := Lib.hid (fun X W rz rt hX h D' cd' hcd' hok' hr' => appy2 wz xb yb rz rt X W hX h D' cd' k d hb hcd' hdl hok' hr')
    rw [HND.out] at APX APY
    have APX1 := Lib.hid (fun X W rt hX h D' cd' hcd' hT' hr' => APX.out X W rs rt hX h D' cd' hcd' hT' hr')
    have APY1 := Lib.hid (fun X W rz hX h D' cd' hcd' hok' hr' => APY.out X W rz rs hX h D' cd' hcd' hok' hr')
    rw [hav] at APX1 APY1
    clear hav APY
    have en1 : (v1 != v1) = false := by simp
    have en2 : (v2 != v2) = false := by simp
    have HT := Lib.hid hT; have HR := Lib.hid hr; clear hT hr hb
    refine wpIn_region_wT (Away wz X2) (fun W => RgB w q xb yb k D nd cd W ∧ Pair wz W xb yb rs rs X2 ∧ W = U) 8 (.firm 0 (.firm 1 (.one 2 (.one 3 (.firm 4 (.firm 5 (.firm 6 (.firm 7 (.one 8 .nil))))))))) (by kernel_rfl) (by kernel_rfl) ⟨HBU.out, HPU.out, rfl⟩ ?_
    rintro w0 ⟨hB8, hP8, rfl⟩
    try simp only [Act.put, List.setIfInBounds_toArray, List.set_cons_zero, List.set_cons_succ]
    iterate 2
      apply sch_firm rfl rfl (by repeat (first | with_reducible exact ButS.refl _ _ | with_reducible assumption | with_reducible refine ButS.drew ?_ | with_reducible refine ButS.alloc ?_ _ | with_reducible refine ButS.within ?_ (by assumption)))
      · intro wq hq
        have gx := (hq.cells q 0 hB8.x.lt (fun h => h.2 (HX2q.out _ (by omega) (by omega)))).trans hB8.x.cell
        have gr0 := (hq.cells (q + 1 + 1) 0 (World.block_lt_of_cell? _ _ hB8.r0) (fun h => h.2 (HX2q.out _ (by omega) (by omega)))).trans hB8.r0
        have gr1 := (hq.cells (q + 1 + 1) 1 (World.block_lt_of_cell? _ _ hB8.r0) (fun h => h.2 (HX2q.out _ (by omega) (by omega)))).trans hB8.r1
        have gxl := Nat.lt_of_lt_of_le hB8.x.lt hq.size
        have grl := Nat.lt_of_lt_of_le (show q + 1 + 1 < _ from World.block_lt_of_cell? _ _ hB8.r0) hq.size
        clear hq
        go_simp
        rfl
      try simp only [Act.put, List.setIfInBounds_toArray, List.set_cons_zero, List.set_cons_succ]
    refine sch_one rfl rfl (fun K hK => ?_)
    go_simp
    refine (CP.out _ (by first | exact hP8.bel | exact Within.drew hP8.bel)).mono ?_; rintro e9 w9 ⟨v9, rfl, hO9, h9⟩
    obtain ⟨A9, c9, rfl, hc9, hs9, _⟩ := hO9.form
    rw [HND.out] at hc9 ⊢
    refine hK _ _ (fun _ => (by repeat (first | with_reducible exact ButS.refl _ _ | with_reducible assumption | with_reducible refine ButS.drew ?_ | with_reducible refine ButS.alloc ?_ _ | with_reducible refine ButS.within ?_ (by assumption)))) ?_
    clear hK K
    try simp only [Act.put, List.setIfInBounds_toArray, List.set_cons_zero, List.set_cons_succ]
    refine sch_one rfl rfl (fun K hK => ?_)
    go_simp
    refine (APX1.out X2 w9 rs (fun j hj => Nat.lt_of_lt_of_le (HX2l.out j hj) (show Within _ _ from ((Within.refl _).drew).trans h9).size) (by exact hP8.of (((Within.refl _).drew).trans h9)) A9 c9 hc9 (by exact HT.out.of (Within.trans hP8.bel (((Within.refl _).drew).trans h9))) hs9).mono ?_; rintro e10 w10 ⟨rfl, hP10, hB10, hk10⟩
    have hT10 : ButS (Away wz X2) w0 w10 := (ButS.in_ (((Within.refl _).drew).trans h9)).trans hB10 (fun _ _ h => h)
    refine hK _ _ (fun _ => (by repeat (first | with_reducible exact ButS.refl _ _ | with_reducible assumption | with_reducible refine ButS.drew ?_ | with_reducible refine ButS.alloc ?_ _ | with_reducible refine ButS.within ?_ (by assumption)))) ?_
    clear hK K
    try simp only [Act.put, List.setIfInBounds_toArray, List.set_cons_zero, List.set_cons_succ]
    iterate 4
      apply sch_firm rfl rfl (by repeat (first | with_reducible exact ButS.refl _ _ | with_reducible assumption | with_reducible refine ButS.drew ?_ | with_reducible refine ButS.alloc ?_ _ | with_reducible refine ButS.within ?_ (by assumption)))
      · intro wq hq
        have gx := (hq.cells q 0 hB8.x.lt (fun h => h.2 (HX2q.out _ (by omega) (by omega)))).trans hB8.x.cell
        have gr0 := (hq.cells (q + 1 + 1) 0 (World.block_lt_of_cell? _ _ hB8.r0) (fun h => h.2 (HX2q.out _ (by omega) (by omega)))).trans hB8.r0
        have gr1 := (hq.cells (q + 1 + 1) 1 (World.block_lt_of_cell? _ _ hB8.r0) (fun h => h.2 (HX2q.out _ (by omega) (by omega)))).trans hB8.r1
        have gxl := Nat.lt_of_lt_of_le hB8.x.lt hq.size
        have grl := Nat.lt_of_lt_of_le (show q + 1 + 1 < _ from World.block_lt_of_cell? _ _ hB8.r0) hq.size
        clear hq
        go_simp
        rfl
      try simp only [Act.put, List.setIfInBounds_toArray, List.set_cons_zero, List.set_cons_succ]
    refine sch_one rfl rfl (fun K hK => ?_)
    go_simp
    refine hK _ _ (fun h => absurd h (by decide)) ?_
    clear hK K
    try simp only [Act.put, List.setIfInBounds_toArray, List.set_cons_zero, List.set_cons_succ]
    refine sch_nil ?_
    have hB10' := hB8.keep (W' := w10) (fun j h1 h2 => hT10.block j (by have := hB8.lt; omega) (fun h => h.2 (HX2q.out j h1 h2)))
    have i09 : Within w0 w9 := ((Within.refl _).drew).trans h9
    have hD10 : w10.heap[D1]? = some (.deferred (some [])) := hk10.same _ _ (Nat.zero_le _) ((i09.block _ (Array.getElem?_eq_some_iff.1 HKU.out).1).trans HKU.out) rfl
    have hc10 := (hT10.cells p2 0 (World.block_lt_of_cell? _ _ HCX.out) (fun h => h.2 (HX2p.out _ (by omega) (by omega)))).trans HCX.out
    have hf10 := (hT10.cells (p2 + 1) 0 (World.block_lt_of_cell? _ _ HCF.out) (fun h => h.2 (HX2p.out _ (by omega) (by omega)))).trans HCF.out
    have HB10 := Lib.hid hB10'; have HP10 := Lib.hid hP10; have HD10 := Lib.hid hD10; have HC10 := Lib.hid hc10; have HF10 := Lib.hid hf10; have HZ10 := Lib.hid hT10.size; clear hB10' hP10 hD10 hc10 hf10 hT10 hk10 hB10 i09 h9 hs9 hB8 hP8
    have y10 := HB10.out.y.cell; have y10l := HB10.out.y.lt; have r10 := HB10.out.r0; have r11 := HB10.out.r1; have r10l := World.block_lt_of_cell? _ _ HB10.out.r0
    gi_wp2_with (refine ⟨trivial, ?_⟩; gi_at_call 10; refine (callsIn_wide.2 (APY1.out X2 w10 ra (fun j hj => Nat.lt_of_lt_of_le (HX2l.out j hj) HZ10.out) HP10.out D cd hcd HP0.out.ok (HR.out.of HP10.out.bel))).mono ?_; rintro e11 w11 ⟨rfl, hP11, hB11, hk11⟩)
    have nX : ∀ j, X2 j → ¬ Away wz X2 j := fun j hj h => h.2 hj
    have hB11' := HB10.out.keep (W' := w11) (fun j h1 h2 => hB11.block j (by have := HB10.out.lt; omega) (nX _ (HX2q.out j h1 h2)))
    have hD11 : w11.heap[D1]? = some (.deferred (some [])) := hk11.same _ _ (Nat.zero_le _) HD10.out rfl
    have hc11 := (hB11.cells p2 0 (World.block_lt_of_cell? _ _ HC10.out) (nX _ (HX2p.out _ (by omega) (by omega)))).trans HC10.out
    have hf11 := (hB11.cells (p2 + 1) 0 (World.block_lt_of_cell? _ _ HF10.out) (nX _ (HX2p.out _ (by omega) (by omega)))).trans HF10.out
    obtain ⟨pm, hpm⟩ : ∃ b, w11.heap.size = b := ⟨_, rfl⟩
    obtain ⟨V3, hV3⟩ : ∃ V, V = w11.alloc (.cells #[.int .i64 0] 3) := ⟨_, rfl⟩
    have s3 : V3.heap.size = pm + 1 := by rw [hV3]; simp [hpm]
    have i3 : Within w11 V3 := by rw [hV3]; exact (Within.refl _).alloc _
    have hm3 : Boxed V3 pm 3 (.int .i64 0) := by rw [hV3, ← hpm]; exact Boxed.new _ _ _
    have hpz : wz.heap.size ≤ pm := by rw [← hpm]; exact hP11.bel.size
    have hDm : D1 < pm := by rw [← hpm]; exact (Array.getElem?_eq_some_iff.1 hD11).1
    have h2m : p2 + 1 < pm := by rw [← hpm]; exact World.block_lt_of_cell? _ _ hf11
    have hZm := hB11.size
    obtain ⟨X3, hX3⟩ : ∃ X : Nat → Prop, (fun j => X2 j ∨ (w11.heap.size ≤ j ∧ j < V3.heap.size)) = X := ⟨_, rfl⟩
    have hP3' := hP11.more i3
    rw [hX3] at hP3'
    have X3a : ∀ j, X2 j → X3 j := fun j h => by rw [← hX3]; exact .inl h
    have X3m : X3 pm := by rw [← hX3]; exact .inr ⟨by omega, by omega⟩
    have X3l : ∀ j, X3 j → j < V3.heap.size := fun j hj => by rw [← hX3] at hj; rcases hj with hj | hj; have := HX2l.out j hj; have := HZ10.out; omega; exact hj.2
    have hI3 : RjI wz w q xb yb ra k D nd cd X3 p2 pm D1 [] V3 := ⟨hB11'.of i3, hm3, ⟨[], by rw [List.append_nil]; exact hP3', fun _ => rfl⟩, (i3.cells _ _ (World.block_lt_of_cell? _ _ hc11)).trans hc11, (i3.cells _ _ (World.block_lt_of_cell? _ _ hf11)).trans hf11, (i3.block _ (Array.getElem?_eq_some_iff.1 hD11).1).trans hD11, YdP.nil _ _⟩
    have HI3 := Lib.hid hI3; have HX3a := Lib.hid X3a; have HX3m := Lib.hid X3m; have HX3l := Lib.hid X3l; have HPA := Lib.hid hP11; have HV3 := Lib.hid hV3; have HPM := Lib.hid hpm; clear hI3 X3a X3m X3l hX3 hP3' hP11 hB11 hk11 hB11' hD11 hc11 hf11 hV3 i3 hm3 nX y10 y10l r10 r11 r10l hpm
    gi_wp2
    rw [HPM.out, ← HV3.out]
    refine range_G rfl (by decide) (gf := 61) (lb := #[.pointer (some ⟨p2, 0, none⟩), .pointer (some ⟨p2 + 1, 0, none⟩)]) rfl trivial (enters_of Tryz.func61 (by kernel_rfl) rfl)
      (Each1_G xb p2 (p2 + 1) 0 0 (by decide) (ra) (fun r hr => ⟨(HPA.out.ok r hr).parts.2.2, (HPA.out.ok r hr).bytes⟩) HPA.out.le) (fun _ => rfl)
      (RjI wz w q xb yb ra k D nd cd X3 p2 pm D1) (fun _ _ _ => False) (RjI.own _ _ _ _ _ _ _ _ _ _ _ _ _ _ (by omega) (by omega)) (fun c s A B row h _ _ => h)
      (fun pre W h => ⟨by obtain ⟨ex, hp, he⟩ := h.p; obtain ⟨S, Sy, h1, _⟩ := hp.ex; exact ⟨S, ex, h1, he⟩, h.cx, h.cf⟩) HI3.out (RjX V3.heap.size ra (fun Bx iv rv => { tmps := #[.pointer (some ⟨xb, 0, none⟩), .pointer (some ⟨yb, 0, none⟩), .agg #[.int .i64 k, .slice D nd cd], .pointer (some ⟨q, 0, none⟩), .pointer (some ⟨q + 1, 0, none⟩), .pointer (some ⟨q + 1 + 1, 0, none⟩), .pointer (some ⟨q + 1 + 1 + 1, 0, none⟩), undef, undef, .func (.func 61) #[] #[.pointer (some ⟨p2, 0, none⟩), .pointer (some ⟨p2 + 1, 0, none⟩)], .int .i64 v1, .int .i64 v2, .int .i64 v1, .int .i64 v2, .pointer (some ⟨pm, 0, none⟩), iv, .pointer (some ⟨Bx, 0, none⟩), .pointer (some ⟨xb, 0, none⟩), .slice A2 mb c2, v3, .pointer (some ⟨xb, 0, none⟩), .func (.func 61) #[] #[.pointer (some ⟨p, 0, none⟩), .pointer (some ⟨p + 1, 0, none⟩)], undef, undef, undef, undef, undef, .pointer (some ⟨xb, 0, none⟩), .slice A6 mb c6, .string sl, .pointer (some ⟨yb, 0, none⟩), .slice A7 mb c7, .string sl, .bool false, .pointer (some ⟨xb, 0, none⟩), .func (.func 61) #[] #[.pointer (some ⟨p2, 0, none⟩), .pointer (some ⟨p2 + 1, 0, none⟩)], .tuple #[.int .i64 v1, .int .i64 v2], .pointer (some ⟨xb, 0, none⟩), .agg #[.int .i64 k, .slice D nd cd], .agg #[.int .i64 k, .slice A9 nd c9], .tuple #[.int .i64 v1, .int .i64 v2], .int .i64 v1, .int .i64 v2, .tuple #[.int .i64 v1, .int .i64 v2], .pointer (some ⟨yb, 0, none⟩), .agg #[.int .i64 k, .slice D nd cd], .tuple #[.int .i64 v1, .int .i64 v2], .int .i64 v1, .int .i64 v2, .int .i64 v1, .int .i64 v1, .bool false, .bool false, .int .i64 v2, .int .i64 v2, .bool false, .bool false, .func (.func 61) #[] #[.pointer (some ⟨p2, 0, none⟩), .pointer (some ⟨p2 + 1, 0, none⟩)], iv, rv, undef, undef, undef, undef, undef, undef, undef, undef, undef, undef, undef, undef, undef, undef, undef, undef, undef, undef, undef, undef, undef, undef, undef, undef, undef, undef, undef, undef, undef, undef, undef, undef, undef, undef, undef, undef, undef, undef, undef, undef, undef], defers := [] })) (fun pre x a' => RjX.own _ _ _ _ _ _ _) ?assign2 ?body2 ?done2 ?stop2
    case stop2 =>
      intro D' c pre W _ _ h _
      exact h.elim
    case assign2 =>
      rintro l pre ⟨i, k', v, d'⟩ W0 W K hI hW ⟨hY1, hO, hby, hdl'⟩ hlen hK
      obtain ⟨hi, hr1⟩ := hY1.last
      have hi2 : i = pre.length := by have h : i = 0 + pre.length := hi; omega
      clear hi
      subst hi2
      rw [Nat.zero_add, List.getElem?_map, Option.map_eq_some_iff] at hr1
      obtain ⟨r, hr1, hre⟩ := hr1
      have hk' : (r.kind : Int) = k' := congrArg Prod.fst hre
      have hd' : r.data = d' := congrArg Prod.snd hre
      subst hk' hd'
      have hO : OwnB W W0.heap.size v r.data := hO
      obtain ⟨A, c, rfl, hc, hs, _⟩ := hO.form
      dsimp only [Yd.enc]
      have HKK := Lib.hid hK; have HIW := Lib.hid ((RjI.own wz w q xb yb ra k D nd cd X3 p2 pm D1 (B := V3.heap.size) (by omega) (by omega)) pre W0 W none hI (within_grown hW) (fun r e => by cases e)); have HS2 := Lib.hid hs; have HR1 := Lib.hid hr1; have HY1 := Lib.hid hY1; have HZW : Hid (V3.heap.size ≤ W.heap.size) := Lib.hid (by have h1 : pm < W0.heap.size := hI.m.lt; have h2 := hW.size; omega); clear hK hI hs hr1 hre hO hby hdl' hY1 hW
      gi_wp2
      exact HKK.out _ _ ((KeepsOthers.alloc _ _).from _) ((RjI.own wz w q xb yb ra k D nd cd X3 p2 pm D1 (B := V3.heap.size) (by omega) (by omega)).alloc _ HIW.out) ⟨W.heap.size, A, c, r, HR1.out, HY1.out, rfl, hc, HZW.out, World.alloc_heap_new W _, HS2.out.of ((Within.refl W).alloc _), rfl⟩
    case body2 =>
      rintro l pre ⟨i, k', v, d'⟩ a' WB hI ⟨Bx, A, c, r, hr1, hY1, hkk, hc, hBx, hcell, hs, rfl⟩ hlen
      obtain ⟨ex, hPx, _⟩ := hI.p
      obtain ⟨S, Sy, _, hYr, _, _⟩ := hPx.ex
      have hyb := hYr.lt
      obtain ⟨Ay, cy, y0, hcy, hyB, hyA⟩ := hYr.list
      obtain ⟨j, hj⟩ : ∃ j, pre.length = j := ⟨_, rfl⟩
      have hM := hI.m
      rw [hj] at hr1 hM hlen ⊢
      have hone : ((ra.map Rec.i).drop j).take 1 = [r.i] := one_at (by rw [List.getElem?_map, hr1]; rfl)
      obtain ⟨ay, rfl, hay⟩ : ∃ ay, Ay = some ay ∧ ay.block < WB.heap.size := by obtain ⟨ad, _, _, e, h, _⟩ := hyA.g j r.i (by rw [List.getElem?_map, hr1]; rfl); exact ⟨ad, e, h⟩
      have HYO : Hid (∀ W, Within WB W → RecG W (some (ay.add (j * 2))) [r.i]) := Lib.hid (fun W h => by have := ((hyA.g.of h).drop j).take 1; rwa [hone] at this)
      obtain ⟨rl, hrl⟩ : ∃ n, r.data.length = n := ⟨_, rfl⟩
      obtain ⟨kd, hkd⟩ : ∃ n, (r.kind : Int) = n := ⟨_, rfl⟩
      have hcell : WB.heap[Bx]? = some (.cells #[.int .i64 kd, .slice A rl c] 30 (0, 0)) := by rw [← hkd, ← hrl]; exact hcell
      rw [hrl] at hc
      rw [hrl, hkd]
      have c0 : WB.cell? ⟨Bx, 0, none⟩ = some (.int .i64 kd) := by simp [World.cell?, hcell]
      have c1 : WB.cell? ⟨Bx, 1, none⟩ = some (.slice A rl c) := by simp [World.cell?, hcell]
      have cl : Bx < WB.heap.size := (Array.getElem?_eq_some_iff.1 hcell).1
      have SM : Hid (∀ W A B c d, RecG W A [r.i] → RecG W B [r.i] → Calls Tryz.prog 22 #[.slice A 1 c, .slice B 1 d] W fun e w' => e = .returned (.bool true) ∧ Within W w') := Lib.hid (fun W A B c d h1 h2 => Rsame22_at A B c d [r.i] (by simp) W h1 h2)
      have ONE : Hid (∀ W, SlAt W A (u8v r.data) → RecG (W.alloc (.cells #[.int .i64 kd, .slice A rl c] 30)) (some ⟨W.heap.size, 0, none⟩) [r.i]) := Lib.hid (fun W h2 => by rw [← hkd, ← hrl]; exact RecG.one W r.i A c _ (by show r.data.length ≤ c; omega) h2)
      obtain ⟨nn, hnn⟩ : ∃ n, ra.length = n := ⟨_, rfl⟩
      rw [hnn] at y0 hcy hlen
      have m0 := hM.cell
      have ml := hM.lt
      have yp := hI.b.y.cell
      have yl := hI.b.y.lt
      have en : ((j : Int) != (j : Int)) = false := by simp
      have hra := HPA.out.le
      rw [hnn] at hra
      have d2 : decide ((nn : Int) ≤ (j : Int)) = false := decide_eq_false (by omega)
      have d3 : (0 : Int) ≤ (j : Int) := by omega
      have d4 : (j : Int) < (nn : Int) := by omega
      have d4n : j < nn := by omega
      have wi : IntKind.i64.wrap ((j : Int) + 1) = (j : Int) + 1 := by rw [IntKind.wrap_i64]; omega
      have d5 : (j : Int) + 1 ≤ (cy : Int) := by omega
      have d6 : (0 : Int) ≤ (j : Int) + 1 := by omega
      have d7 : (j : Int) ≤ (j : Int) + 1 := by omega
      have d8 : ((j : Int) + 1).toNat - j = 1 := by omega
      have d9 : ¬ cy = j := by omega
      have HI := Lib.hid hI; have HPX := Lib.hid hPx; have HM := Lib.hid hM; have HS := Lib.hid hs; have HY1 := Lib.hid hY1; have HJ := Lib.hid hj; have HML := Lib.hid ml; clear hI hPx hYr hyB hyA hone hcell hs hr1 hM hY1 hkk hrl hkd hnn hj
      gi_wp2
      refine wpIn_region_rG (fun W => W.cell? ⟨pm, 0, none⟩ = some (.int .i64 (j : Int)) ∧ pm < W.heap.size ∧ W.cell? ⟨q + 1, 0, none⟩ = some (.pointer (some ⟨yb, 0, none⟩)) ∧ q + 1 < W.heap.size ∧ W.cell? ⟨yb, 0, none⟩ = some (.slice (some ay) nn cy) ∧ yb < W.heap.size ∧ W.cell? ⟨Bx, 0, none⟩ = some (.int .i64 kd) ∧ W.cell? ⟨Bx, 1, none⟩ = some (.slice A rl c) ∧ Bx < W.heap.size ∧ Within WB W) 25 (.firm 0 (.firm 1 (.firm 2 (.firm 3 (.firm 4 (.firm 5 (.firm 6 (.firm 7 (.firm 8 (.firm 9 (.firm 10 (.firm 11 (.firm 12 (.firm 13 (.firm 15 (.firm 16 (.firm 17 (.firm 18 (.firm 19 (.firm 20 (.firm 21 (.firm 22 (.one 14 (.one 23 (.firm 24 (.one 25 .nil)))))))))))))))))))))))))) (by kernel_rfl) (by kernel_rfl) ⟨m0, ml, yp, yl, y0, hyb, c0, c1, cl, Within.refl _⟩ ?_
      rintro w0 ⟨m0, ml, yp, yl, y0, hyb, c0, c1, cl, hw4⟩
      try simp only [Act.put, List.setIfInBounds_toArray, List.set_cons_zero, List.set_cons_succ]
      iterate 4
        apply sch_firm rfl rfl (by repeat (first | with_reducible exact Within.refl _ | with_reducible assumption | with_reducible refine Within.alloc ?_ _ | with_reducible refine Within.drew ?_ | with_reducible refine Within.drewN ?_ _ | with_reducible refine Within.setCell ?_ (by first | (simp; done) | (simp; omega)) _ | with_reducible refine Within.trans ?_ (by assumption)))
        · intro wq hq
          have hcq := hq.cells
          clear hq
          go_simp
          rfl
        try simp only [Act.put, List.setIfInBounds_toArray, List.set_cons_zero, List.set_cons_succ]
      iterate 7
        apply sch_want rfl (by first | rfl | decide | (simp [Region.wanted, yielded, d4n]; done)) (by repeat (first | with_reducible exact Within.refl _ | with_reducible assumption | with_reducible refine Within.alloc ?_ _ | with_reducible refine Within.drew ?_ | with_reducible refine Within.drewN ?_ _ | with_reducible refine Within.setCell ?_ (by first | (simp; done) | (simp; omega)) _ | with_reducible refine Within.trans ?_ (by assumption)))
        · intro wq hq
          have hcq := hq.cells
          clear hq
          go_simp
          rfl
        try simp only [Act.put, List.setIfInBounds_toArray, List.set_cons_zero, List.set_cons_succ]
      iterate 2
        apply sch_firm rfl rfl (by repeat (first | with_reducible exact Within.refl _ | with_reducible assumption | with_reducible refine Within.alloc ?_ _ | with_reducible refine Within.drew ?_ | with_reducible refine Within.drewN ?_ _ | with_reducible refine Within.setCell ?_ (by first | (simp; done) | (simp; omega)) _ | with_reducible refine Within.trans ?_ (by assumption)))
        · intro wq hq
          have hcq := hq.cells
          clear hq
          go_simp
          rfl
        try simp only [Act.put, List.setIfInBounds_toArray, List.set_cons_zero, List.set_cons_succ]
      iterate 9
        apply sch_want rfl (by first | rfl | decide | (simp [Region.wanted, yielded, d4n]; done)) (by repeat (first | with_reducible exact Within.refl _ | with_reducible assumption | with_reducible refine Within.alloc ?_ _ | with_reducible refine Within.drew ?_ | with_reducible refine Within.drewN ?_ _ | with_reducible refine Within.setCell ?_ (by first | (simp; done) | (simp; omega)) _ | with_reducible refine Within.trans ?_ (by assumption)))
        · intro wq hq
          have hcq := hq.cells
          clear hq
          go_simp
          rfl
        try simp only [Act.put, List.setIfInBounds_toArray, List.set_cons_zero, List.set_cons_succ]
      refine sch_one_want rfl (by first | rfl | decide | (simp [Region.wanted, yielded, d4n]; done)) (fun K hK => ?_)
      go_simp
      refine hK _ _ (fun _ => (by repeat (first | with_reducible exact Within.refl _ | with_reducible assumption | with_reducible refine Within.alloc ?_ _ | with_reducible refine Within.drew ?_ | with_reducible refine Within.drewN ?_ _ | with_reducible refine Within.setCell ?_ (by first | (simp; done) | (simp; omega)) _ | with_reducible refine Within.trans ?_ (by assumption)))) ?_
      clear hK K
      try simp only [Act.put, List.setIfInBounds_toArray, List.set_cons_zero, List.set_cons_succ]
      refine sch_one_want rfl (by first | rfl | decide | (simp [Region.wanted, yielded, d4n]; done)) (fun K hK => ?_)
      go_simp
      refine (SM.out _ _ _ _ _ (by exact ONE.out _ (by exact HS.out.of (by first | exact hw4 | exact hw4.drew))) (HYO.out _ (by first | exact hw4.alloc _ | exact hw4.drew.alloc _))).mono ?_; rintro e5 w5 ⟨rfl, h5⟩
      refine hK _ _ (fun _ => (by repeat (first | with_reducible exact Within.refl _ | with_reducible assumption | with_reducible refine Within.alloc ?_ _ | with_reducible refine Within.drew ?_ | with_reducible refine Within.drewN ?_ _ | with_reducible refine Within.setCell ?_ (by first | (simp; done) | (simp; omega)) _ | with_reducible refine Within.trans ?_ (by assumption)))) ?_
      clear hK K
      try simp only [Act.put, List.setIfInBounds_toArray, List.set_cons_zero, List.set_cons_succ]
      apply sch_want rfl (by first | rfl | decide | (simp [Region.wanted, yielded, d4n]; done)) (by repeat (first | with_reducible exact Within.refl _ | with_reducible assumption | with_reducible refine Within.alloc ?_ _ | with_reducible refine Within.drew ?_ | with_reducible refine Within.drewN ?_ _ | with_reducible refine Within.setCell ?_ (by first | (simp; done) | (simp; omega)) _ | with_reducible refine Within.trans ?_ (by assumption)))
      · intro wq hq
        have hcq := hq.cells
        clear hq
        go_simp
        rfl
      try simp only [Act.put, List.setIfInBounds_toArray, List.set_cons_zero, List.set_cons_succ]
      refine sch_one rfl rfl (fun K hK => ?_)
      go_simp
      refine hK _ _ (fun h => absurd h (by decide)) ?_
      clear hK K
      try simp only [Act.put, List.setIfInBounds_toArray, List.set_cons_zero, List.set_cons_succ]
      refine sch_nil ?_
      have hw5 : Within WB w5 := by first | exact (hw4.alloc _).trans h5 | exact (hw4.drew.alloc _).trans h5
      have HW5 := Lib.hid hw5; clear hw5 h5
      have m5 := (HW5.out.cells pm 0 HML.out).trans HM.out.cell
      have mf5 := (HW5.out.frozens pm 0 HML.out).trans HM.out.frozen
      have ml5 := Nat.lt_of_lt_of_le HML.out HW5.out.size
      by_cases hj4 : j + 1 < 4
      · have dj : decide ((j : Int) + 1 < 4) = true := decide_eq_true (by omega)
        have djp : (j : Int) + 1 < 4 := by omega
        gi_wp2
        obtain ⟨W6, hW6⟩ : ∃ V, V = w5.setCell ⟨pm, 0, none⟩ (.int .i64 ((j : Int) + 1)) := ⟨_, rfl⟩
        rw [← hW6]
        have hB6 : RgB w q xb yb k D nd cd W6 := HI.out.b.of HW5.out |>.keep (fun b h1 h2 => by rw [hW6]; exact Below.heap_setCell w5 ⟨pm, 0, none⟩ _ b (by show b ≠ pm; omega))
        have hM6 : Boxed W6 pm 3 (.int .i64 ((j : Int) + 1)) := by rw [hW6]; exact (HM.out.kept (within_grown HW5.out) (fun e => by cases e)).set _
        have hT6 : ButS (fun b => b = pm) w5 W6 := by rw [hW6]; exact (ButS.refl (fun b => b = pm) w5).set (p := ⟨pm, 0, none⟩) (.inl rfl) _
        have hP6 := (HPX.out.of HW5.out).butS hT6 (fun b hb => by rw [hb]; exact ⟨HX3m.out, hpz⟩)
        have hcx6 := (hT6.cells p2 0 (by have := World.block_lt_of_cell? _ _ HI.out.cx; have := HW5.out.size; omega) (by omega)).trans ((HW5.out.cells _ _ (World.block_lt_of_cell? _ _ HI.out.cx)).trans HI.out.cx)
        have hcf6 := (hT6.cells (p2 + 1) 0 (by have : p2 + 1 < WB.heap.size := World.block_lt_of_cell? _ _ HI.out.cf; have := HW5.out.size; omega) (by omega)).trans ((HW5.out.cells _ _ (World.block_lt_of_cell? _ _ HI.out.cf)).trans HI.out.cf)
        have hd6 : W6.heap[D1]? = some (.deferred (some [])) := by rw [hW6]; exact (KeepsOthers.setCell _ _ _).same D1 _ ((HW5.out.block _ (Array.getElem?_eq_some_iff.1 HI.out.d).1).trans HI.out.d) rfl
        have hk6 : KeepsFrom V3.heap.size WB W6 := (HW5.out.keepsFrom _).trans (by rw [hW6]; exact (KeepsOthers.setCell _ _ _).from _)
        have HB6 := Lib.hid hB6; have HM6 := Lib.hid hM6; have HP6 := Lib.hid hP6; have HCX6 := Lib.hid hcx6; have HCF6 := Lib.hid hcf6; have HD6 := Lib.hid hd6; have HK6 := Lib.hid hk6; clear hB6 hM6 hP6 hcx6 hcf6 hd6 hk6 hT6 hW6 m5 mf5 ml5
        refine wpIn_region_rT (Away wz X3) (fun W => RgB w q xb yb k D nd cd W ∧ Pair wz W xb yb (ra ++ ex) ra X3 ∧ W = W6) 3 (.firm 0 (.firm 1 (.one 2 (.one 3 .nil)))) (by kernel_rfl) (by kernel_rfl) ⟨HB6.out, HP6.out, rfl⟩ ?_
        rintro w0 ⟨hB8, hP8, rfl⟩
        try simp only [Act.put, List.setIfInBounds_toArray, List.set_cons_zero, List.set_cons_succ]
        iterate 2
          apply sch_firm rfl rfl (by repeat (first | with_reducible exact ButS.refl _ _ | with_reducible assumption | with_reducible refine ButS.drew ?_ | with_reducible refine ButS.alloc ?_ _ | with_reducible refine ButS.within ?_ (by assumption)))
          · intro wq hq
            have gx := (hq.cells q 0 hB8.x.lt (fun h => h.2 (HX3a.out _ (HX2q.out _ (by omega) (by omega))))).trans hB8.x.cell
            have gr0 := (hq.cells (q + 1 + 1) 0 (World.block_lt_of_cell? _ _ hB8.r0) (fun h => h.2 (HX3a.out _ (HX2q.out _ (by omega) (by omega))))).trans hB8.r0
            have gr1 := (hq.cells (q + 1 + 1) 1 (World.block_lt_of_cell? _ _ hB8.r0) (fun h => h.2 (HX3a.out _ (HX2q.out _ (by omega) (by omega))))).trans hB8.r1
            have gxl := Nat.lt_of_lt_of_le hB8.x.lt hq.size
            have grl := Nat.lt_of_lt_of_le (show q + 1 + 1 < _ from World.block_lt_of_cell? _ _ hB8.r0) hq.size
            clear hq
            go_simp
            rfl
          try simp only [Act.put, List.setIfInBounds_toArray, List.set_cons_zero, List.set_cons_succ]
        refine sch_one rfl rfl (fun K hK => ?_)
        go_simp
        refine (CP.out _ (by first | exact hP8.bel | exact Within.drew hP8.bel)).mono ?_; rintro e9 w9 ⟨v9, rfl, hO9, h9⟩
        obtain ⟨A9, c9, rfl, hc9, hs9, _⟩ := hO9.form
        rw [HND.out] at hc9 ⊢
        refine hK _ _ (fun _ => (by repeat (first | with_reducible exact ButS.refl _ _ | with_reducible assumption | with_reducible refine ButS.drew ?_ | with_reducible refine ButS.alloc ?_ _ | with_reducible refine ButS.within ?_ (by assumption)))) ?_
        clear hK K
        try simp only [Act.put, List.setIfInBounds_toArray, List.set_cons_zero, List.set_cons_succ]
        refine sch_one rfl rfl (fun K hK => ?_)
        go_simp
        refine (APX.out X3 w9 (ra ++ ex) ra (fun b hb => Nat.lt_of_lt_of_le (HX3l.out b hb) (by have h1 := (show Within _ _ from ((Within.refl _).drew).trans h9).size; have h2 : pm < w0.heap.size := HM6.out.lt; omega)) (by exact hP8.of (((Within.refl _).drew).trans h9)) A9 c9 hc9 (by exact HT.out.of (Within.trans hP8.bel (((Within.refl _).drew).trans h9))) hs9).mono ?_; rintro e10 w10 ⟨rfl, hP10, hB10, hk10⟩
        refine hK _ _ (fun h => absurd h (by decide)) ?_
        clear hK K
        try simp only [Act.put, List.setIfInBounds_toArray, List.set_cons_zero, List.set_cons_succ]
        refine sch_nil ?_
        have i09 : Within w0 w9 := ((Within.refl _).drew).trans h9
        have hT10 : ButS (Away wz X3) w0 w10 := (ButS.in_ i09).trans hB10 (fun _ _ h => h)
        have nX : ∀ b, X3 b → ¬ Away wz X3 b := fun b hb h => h.2 hb
        obtain ⟨e, he⟩ := appendV_ext (ra ++ ex) (k, d)
        rw [he, List.append_assoc] at hP10
        skip
        exact ⟨HK6.out.trans ((i09.keepsFrom _).trans (KeepsFrom.up hk10 _)), ⟨hB8.keep (fun b h1 h2 => hT10.block b (by have := hB8.lt; omega) (nX _ (HX3a.out _ (HX2q.out b h1 h2)))), (hT10.block pm HM6.out.lt (nX _ HX3m.out)).trans (by rw [List.length_append, HJ.out]; exact HM6.out), ⟨ex ++ e, hP10, fun h => by simp at h⟩, (hT10.cells p2 0 (World.block_lt_of_cell? _ _ HCX6.out) (nX _ (HX3a.out _ (HX2p.out _ (by omega) (by omega))))).trans HCX6.out, (hT10.cells (p2 + 1) 0 (World.block_lt_of_cell? _ _ HCF6.out) (nX _ (HX3a.out _ (HX2p.out _ (by omega) (by omega))))).trans HCF6.out, hk10.same _ _ (Nat.zero_le _) ((i09.block _ (Array.getElem?_eq_some_iff.1 HD6.out).1).trans HD6.out) rfl, HY1.out⟩⟩
      · have dj : decide ((j : Int) + 1 < 4) = false := decide_eq_false (by omega)
        have djp : ¬ (j : Int) + 1 < 4 := by omega
        gi_wp2
        obtain ⟨W6, hW6⟩ : ∃ V, V = w5.setCell ⟨pm, 0, none⟩ (.int .i64 ((j : Int) + 1)) := ⟨_, rfl⟩
        rw [← hW6]
        have hB6 : RgB w q xb yb k D nd cd W6 := HI.out.b.of HW5.out |>.keep (fun b h1 h2 => by rw [hW6]; exact Below.heap_setCell w5 ⟨pm, 0, none⟩ _ b (by show b ≠ pm; omega))
        have hM6 : Boxed W6 pm 3 (.int .i64 ((j : Int) + 1)) := by rw [hW6]; exact (HM.out.kept (within_grown HW5.out) (fun e => by cases e)).set _
        have hT6 : ButS (fun b => b = pm) w5 W6 := by rw [hW6]; exact (ButS.refl (fun b => b = pm) w5).set (p := ⟨pm, 0, none⟩) (.inl rfl) _
        have hP6 := (HPX.out.of HW5.out).butS hT6 (fun b hb => by rw [hb]; exact ⟨HX3m.out, hpz⟩)
        have hcx6 := (hT6.cells p2 0 (by have := World.block_lt_of_cell? _ _ HI.out.cx; have := HW5.out.size; omega) (by omega)).trans ((HW5.out.cells _ _ (World.block_lt_of_cell? _ _ HI.out.cx)).trans HI.out.cx)
        have hcf6 := (hT6.cells (p2 + 1) 0 (by have : p2 + 1 < WB.heap.size := World.block_lt_of_cell? _ _ HI.out.cf; have := HW5.out.size; omega) (by omega)).trans ((HW5.out.cells _ _ (World.block_lt_of_cell? _ _ HI.out.cf)).trans HI.out.cf)
        have hd6 : W6.heap[D1]? = some (.deferred (some [])) := by rw [hW6]; exact (KeepsOthers.setCell _ _ _).same D1 _ ((HW5.out.block _ (Array.getElem?_eq_some_iff.1 HI.out.d).1).trans HI.out.d) rfl
        have hk6 : KeepsFrom V3.heap.size WB W6 := (HW5.out.keepsFrom _).trans (by rw [hW6]; exact (KeepsOthers.setCell _ _ _).from _)
        rw [s3] at hk6
        exact ⟨hk6, ⟨hB6, by rw [List.length_append, HJ.out]; exact hM6, ⟨ex, hP6, fun h => by simp at h⟩, hcx6, hcf6, hd6, HY1.out⟩⟩
    case done2 =>
      rintro D2 xs W9 hD2 ⟨hY2, hl2⟩ hI hK2
      obtain ⟨ex, hPx, _⟩ := hI.p
      obtain ⟨S, Sy, _, hYr, _, _⟩ := hPx.ex
      have hyb := hYr.lt
      obtain ⟨Ay, cy, y0, _, _, _⟩ := hYr.list
      have m0 := hI.m.cell
      have ml := hI.m.lt
      have yp := hI.b.y.cell
      have yl := hI.b.y.lt
      have v0 := hI.b.v.cell
      have vf := hI.b.v.frozen
      have vl := hI.b.v.lt
      obtain ⟨nn, hnn⟩ : ∃ n, ra.length = n := ⟨_, rfl⟩
      rw [hnn] at y0 hl2
      have hxl : xs.length = nn := by omega
      rw [hxl] at m0
      have en : ((nn : Int) == (nn : Int)) = true := by simp
      have HB9 := Lib.hid hPx.bel; have HDD := Lib.hid hI.d; have HK2 := Lib.hid hK2; clear hI hPx hYr hY2 hl2 hK2 hnn hxl
      gi_wp2
      refine wpIn_region_schGW (fun W => W.cell? ⟨pm, 0, none⟩ = some (.int .i64 (nn : Int)) ∧ pm < W.heap.size ∧ W.cell? ⟨q + 1, 0, none⟩ = some (.pointer (some ⟨yb, 0, none⟩)) ∧ q + 1 < W.heap.size ∧ W.cell? ⟨yb, 0, none⟩ = some (.slice Ay nn cy) ∧ yb < W.heap.size ∧ W.cell? ⟨q + 1 + 1 + 1, 0, none⟩ = some (.bool false) ∧ W.frozen? ⟨q + 1 + 1 + 1, 0, none⟩ = false ∧ q + 1 + 1 + 1 < W.heap.size ∧ W = W9) 7 (.firm 0 (.firm 1 (.firm 2 (.firm 3 (.firm 4 (.firm 5 (.firm 6 (.one 7 .nil)))))))) (by kernel_rfl) (by kernel_rfl) ⟨m0, ml, yp, yl, y0, hyb, v0, vf, vl, rfl⟩ ?_
      rintro w0 ⟨m0, ml, yp, yl, y0, hyb, v0, vf, vl, rfl⟩
      try simp only [Act.put, List.setIfInBounds_toArray, List.set_cons_zero, List.set_cons_succ]
      iterate 7
        apply sch_firm rfl rfl (by repeat (first | with_reducible exact Within.refl _ | with_reducible assumption | with_reducible refine Within.alloc ?_ _ | with_reducible refine Within.drew ?_ | with_reducible refine Within.drewN ?_ _ | with_reducible refine Within.setCell ?_ (by first | (simp; done) | (simp; omega)) _ | with_reducible refine Within.trans ?_ (by assumption)))
        · intro wq hq
          have hcq := hq.cells
          clear hq
          go_simp
          rfl
        try simp only [Act.put, List.setIfInBounds_toArray, List.set_cons_zero, List.set_cons_succ]
      refine sch_one rfl rfl (fun K hK => ?_)
      go_simp
      refine hK _ _ (fun h => absurd h (by decide)) ?_
      clear hK K
      try simp only [Act.put, List.setIfInBounds_toArray, List.set_cons_zero, List.set_cons_succ]
      refine sch_nil ?_
      have HW5 := HB9
      have U0 := Lib.hid v0
      gi_wp2
      all_goals
        obtain ⟨R0, hR0⟩ : ∃ R, R = w0.setCell ⟨q + 1 + 1 + 1, 0, none⟩ (.bool true) := ⟨_, rfl⟩
        rw [← hR0]
        have x0 : R0.cell? ⟨q + 1 + 1 + 1, 0, none⟩ = some (.bool true) := by rw [hR0]; exact World.cell?_setCell_same _ _ _ U0.out
        have B0 : Below wz.heap.size wz R0 := by rw [hR0]; exact Below.setCell HW5.out (p := ⟨q + 1 + 1 + 1, 0, none⟩) (by show wz.heap.size ≤ q + 1 + 1 + 1; omega) _
        have kb0 : R0.heap[D2]? = some (.deferred (some [])) := by rw [hR0]; exact (KeepsOthers.setCell _ _ _).same D2 _ HK2.out rfl
        have ka0 : R0.heap[D1]? = some (.deferred (some [])) := by rw [hR0]; exact (KeepsOthers.setCell _ _ _).same D1 _ HDD.out rfl
        clear hR0
        skip
        first | (obtain ⟨R1, hR1⟩ : ∃ R, R = R0.drew := ⟨_, rfl⟩; rw [← hR1]) | (obtain ⟨R1, hR1⟩ : ∃ R, R = R0 := ⟨_, rfl⟩; rw [← hR1])
        have x1 : R1.cell? ⟨q + 1 + 1 + 1, 0, none⟩ = some (.bool true) := by rw [hR1]; exact x0
        have B1 : Below wz.heap.size wz R1 := by rw [hR1]; first | exact B0 | exact Below.drew B0
        have kb1 : R1.heap[D2]? = some (.deferred (some [])) := by rw [hR1]; exact kb0
        have ka1 : R1.heap[D1]? = some (.deferred (some [])) := by rw [hR1]; exact ka0
        have hne : D1 ≠ D2 := by omega
        have ka2 : (R1.putObj D2 (.deferred none)).heap[D1]? = some (.deferred (some [])) := (World.putObj_heap_other hne).trans ka1
        have x2 := cell_kept x1 (grownBy_putObj' R1 D2 (.deferred none)) (fun r e => by cases e; exact ⟨_, kb1, rfl⟩)
        have x3 := cell_kept x2 (grownBy_putObj' _ D1 (.deferred none)) (fun r e => by cases e; exact ⟨_, ka2, rfl⟩)
        have x3l := World.block_lt_of_cell? _ _ x3
        have B2 := B1.trans (belowK_b (w := wz) (Nat.le_refl _) R1 D2 _ (.deferred none) (by omega) kb1 rfl rfl)
        have B3 := B2.trans (belowK_b (w := wz) (Nat.le_refl _) _ D1 _ (.deferred none) (by omega) ka2 rfl rfl)
        refine ⟨by simp, .inl ⟨_, _, rfl, run_takeDeferred kb1, ?_⟩⟩
        refine ⟨by simp, .inl ⟨_, _, rfl, run_takeDeferred ka2, ?_⟩⟩
        obtain ⟨R3, hR3⟩ : ∃ R, R = (R1.putObj D2 (.deferred none)).putObj D1 (.deferred none) := ⟨_, rfl⟩
        rw [← hR3] at x3 x3l B3 ⊢
        exact ⟨_, by simp [results, Tryz.results29, go_sem, x3, x3l], rfl, B3⟩
end Go.Proofs.YtpmjlaiafgbjgaaGreatDoor
end

section
namespace Go.Proofs.YtpmjlaiafgbjgaaGreatDoor
open Go.RowKit
theorem copy_run (w : World) (A : Option Addr) (c : Nat) (b : List Nat) (hlen : b.length ≤ 140737488355328) (hr : SlAt w A (u8v b)) : ∃ A' c' w', (Builtin.append_ #[28, 28] 28 #[.slice (some ⟨w.heap.size, 0, none⟩) 0 0, .slice A b.length c]).run Tryz.prog (w.alloc (.cells #[] 5)) = .ok (.slice A' b.length c') w' ∧ b.length ≤ c' ∧ SlAt w' A' (u8v b) ∧ OwnB w' w.heap.size (.slice A' b.length c') b ∧ Within w w' := by
  have h0 := OwnB.lit w w.heap.size (Nat.le_refl _) [] (by simp)
  have hin : Within w (w.alloc (.cells #[] 5)) := (Within.refl w).alloc _
  obtain ⟨v', w', h1, h2, h3⟩ := run_app_u8 (w.alloc (.cells #[] 5)) w.heap.size (.slice (some ⟨w.heap.size, 0, none⟩) 0 0) [] b h0 A c (hr.of hin) (by simp; omega) hin.size
  rw [List.nil_append] at h2
  obtain ⟨A', c', rfl, hc, hs, _⟩ := h2.form
  exact ⟨A', c', w', h1, hc, hs, h2, Below.trans hin h3⟩
theorem recs_ok {b : List Nat} (hb : Bytes b) : (∀ r ∈ (logRead b).1, r.Ok pf) ∧ (logRead b).1.length ≤ 1048576 := by
  by_cases hm : b.take 8 = magicV
  · rw [logRead_yes hm]
    exact read_ok hb
  · rw [logRead_no hm]
    exact ⟨fun r hr => (by cases hr), Nat.zero_le _⟩
theorem readingsV_six {rs : List IRec} (h1 : ∀ r ∈ rs, r.2.length ≤ 1152921504606846976) (h2 : ∀ r ∈ rs, Bytes r.2) : ∀ r ∈ readingsV rs, r.vals.length ≤ 6 := by
  intro r hr
  unfold readingsV at hr
  obtain ⟨x, hx, rfl⟩ := List.mem_map.1 hr
  obtain ⟨hx1, hx2⟩ := List.mem_filter.1 hx
  have h0 := isRd_unpack hx2
  unfold rdOf
  rw [if_pos h0]
  have := (readB_ok pf_ok (h2 x hx1) h0).len
  omega
def F64s (w : World) (g n : Nat) : Prop := (∀ i, i < n → ∃ x, w.cell? ⟨g, i, none⟩ = some (.float .f64 x)) ∧ ∀ o, w.frozen? ⟨g, o, none⟩ = false
theorem F64s.set {w : World} {g n : Nat} (h : F64s w g n) (i : Nat) (x : Nat) : F64s (w.setCell ⟨g, i, none⟩ (.float .f64 x)) g n := by
  refine ⟨fun j hj => ?_, fun o => by rw [World.frozen?_setCell]; exact h.2 o⟩
  obtain ⟨y, hc⟩ := h.1 j hj
  by_cases e : i = j
  · subst e
    exact ⟨x, World.cell?_setCell_same _ _ _ hc⟩
  · exact ⟨y, (World.cell?_setCell_other _ _ _ _ (fun h => e (by cases h; rfl))).trans hc⟩
theorem F64s.of {w w' : World} {g n : Nat} (h : F64s w g n) (k : Within w w') (hg : g < w.heap.size) : F64s w' g n := ⟨fun i hi => by
    obtain ⟨x, hc⟩ := h.1 i hi
    exact ⟨x, (k.cells _ _ hg).trans hc⟩, fun o => (k.frozens _ _ hg).trans (h.2 o)⟩
theorem OwnF.f64s {w : World} {base : Nat} {v : Value} {l : List Nat} (h : OwnF w base v l) (g0 : Nat) (hg0 : base ≤ g0) : ∃ A c g, v = .slice A l.length c ∧ l.length ≤ c ∧ base ≤ g ∧ SlAt w A (f64v l) ∧ (0 < l.length → A = some ⟨g, 0, none⟩ ∧ g < w.heap.size ∧ F64s w g l.length) := by
  rcases Nat.eq_zero_or_pos l.length with h0 | h0
  · obtain ⟨A, c, e, hc, hs, _⟩ := h.form
    exact ⟨A, c, g0, e, hc, hg0, hs, fun hp => by omega⟩
  · obtain ⟨A, c, e, hc, hs, _⟩ := h.form
    rcases h.2 with ⟨_, hn⟩ | ⟨g, cap, cur, hv, hg, hb, hc', _, _, _⟩
    · omega
    · obtain ⟨hlt, _⟩ := Array.getElem?_eq_some_iff.1 hb
      rw [e] at hv
      obtain ⟨rfl, _, _⟩ := Value.slice.inj hv
      refine ⟨_, c, g, e, hc, hg, hs, fun _ => ⟨rfl, hlt, fun i hi => ⟨l.getD i 0, ?_⟩, fun o => by simp [World.frozen?, hb]⟩⟩
      · have := World.ownsRow.cells (g := g) h (by rw [e]; rfl) i (.float .f64 (l.getD i 0)) (by
          unfold f64v; rw [List.getElem?_map, List.getElem?_eq_getElem hi, Option.map_some]; simp [List.getD, List.getElem?_eq_getElem hi])
        rwa [add_at] at this
def WipeAt (w : World) (A : Option Addr) (lo hi : Nat) (rs : List IRec) : Prop := ∀ (i : Nat) r, rs[i]? = some r → ∃ ad Dv cv g, A = some ad ∧ lo ≤ ad.block ∧ ad.block < w.heap.size ∧ w.cell? ⟨(ad.add (i * 2)).block, (ad.add (i * 2)).off + 1, none⟩ = some (.slice Dv r.2.length cv) ∧ r.2.length ≤ cv ∧ (0 < r.2.length → Dv = some ⟨g, 0, none⟩ ∧ lo ≤ g ∧ g < hi ∧ g < w.heap.size ∧ g ≠ ad.block ∧ U8s w g r.2.length)
theorem RecsO.wipe {w : World} {base : Nat} {v : Value} {rs : List IRec} (h : RecsO w base v rs) : ∃ A c, v = .slice A rs.length c ∧ rs.length ≤ c ∧ RecAt w (fun k => base ≤ k) A rs ∧ WipeAt w A base w.heap.size rs := by
  obtain ⟨A, c, hv, hc, _, _, hat⟩ := h.at
  refine ⟨A, c, hv, hc, hat, ?_⟩
  obtain ⟨ps, rfl, hrow, hps⟩ := h
  intro i r hi
  rcases hrow.2 with ⟨_, h0⟩ | ⟨g, cap, cur, h1, hg, hb, hc', _, _, _⟩
  · have : ps = [] := List.eq_nil_of_length_eq_zero h0
    subst this
    simp at hi
  · obtain ⟨hlt, _⟩ := Array.getElem?_eq_some_iff.1 hb
    have hi0 := hi
    rw [List.getElem?_map, Option.map_eq_some_iff] at hi
    obtain ⟨p, hp, rfl⟩ := hi
    obtain ⟨o1, o2, o3⟩ := hps p (List.mem_of_getElem? hp)
    obtain ⟨Dv, cv, gd, e, hcv, hgd, hs, hU, _⟩ := o1.u8s o2 base (Nat.le_refl _)
    have hA : A = some ⟨g, 0, none⟩ := by rw [hv] at h1; exact (Value.slice.inj h1).1
    have key : w.cell? ⟨g, i * 2 + 1, none⟩ = some p.2 := by rw [← add_at]; exact World.ownsRow.cells (g := g) hrow (by rw [h1]; rfl) _ _ (cellsI_get ps i p hp 1 _ rfl)
    refine ⟨⟨g, 0, none⟩, Dv, cv, gd, hA, hg, hlt, by rw [add_at]; show w.cell? ⟨g, i * 2 + 1, none⟩ = _; rw [key, e], hcv, fun hn => ?_⟩
    obtain ⟨rfl, u2, u3⟩ := hU hn
    refine ⟨rfl, hgd, u2, u2, fun e' => ?_, u3⟩
    rcases o3 with o3 | o3
    · rw [e] at o3; cases o3
    · exact o3 (by rw [e, h1]; show some gd = some g; rw [show gd = g from e'])
theorem WipeAt.butS {w w' : World} {S : Nat → Prop} {A : Option Addr} {lo hi : Nat} {rs : List IRec} (h : WipeAt w A lo hi rs) (k : ButS S w w') (hs : ∀ j, lo ≤ j → ¬ S j) : WipeAt w' A lo hi rs := fun i r hr => by
  obtain ⟨ad, Dv, cv, g, h1, h2, h3, h4, h5, h6⟩ := h i r hr
  refine ⟨ad, Dv, cv, g, h1, h2, Nat.lt_of_lt_of_le h3 k.size, (k.cells _ _ (by rw [add_block]; exact h3) (by rw [add_block]; exact hs _ h2)).trans h4, h5, fun hn => ?_⟩
  obtain ⟨h7, h8, h9, h10, h11, h12⟩ := h6 hn
  exact ⟨h7, h8, h9, Nat.lt_of_lt_of_le h10 k.size, h11, fun i hi => by obtain ⟨x, hx, hc⟩ := h12.1 i hi; exact ⟨x, hx, (k.cells _ _ h10 (hs _ h8)).trans hc⟩, fun o => (k.frozens _ _ h10 (hs _ h8)).trans (h12.2 o)⟩
theorem RdsO.keep {w w' : World} {base : Nat} {v : Value} {rs : List Rd} (h : RdsO w base v rs) (k : ∀ j, base ≤ j → j < w.heap.size → w'.heap[j]? = w.heap[j]?) : RdsO w' base v rs := by
  obtain ⟨ps, h1, h2, h3⟩ := h
  exact ⟨ps, h1, ownsRow_keep h2 (fun j hj => k j (h2.lt j hj).1 (h2.lt j hj).2), fun p hp => ⟨ownsRow_keep (h3 p hp).1 (fun j hj => k j ((h3 p hp).1.lt j hj).1 ((h3 p hp).1.lt j hj).2), (h3 p hp).2⟩⟩
theorem OwnB.keepS {w w' : World} {S : Nat → Prop} {base : Nat} {v : Value} {l : List Nat} (h : OwnB w base v l) (k : ButS S w w') (hs : ∀ j, base ≤ j → ¬ S j) : OwnB w' base v l :=
  ownsRow_keep h (fun j hj => k.block j (h.lt j hj).2 (hs j (h.lt j hj).1))
def OpenedP (L : World → (Nat → Prop) → Nat → List Rec → Prop) (b : List Nat) (w : World) (e : Ending) (w' : World) : Prop := ∃ q : Option Addr, e = .returned (.tuple #[.pointer q, .agg #[.int .i64 ((logRead b).2.1 : Int), .int .i64 ((logRead b).2.2 : Int)]]) ∧ Within w w' ∧ ((b.take 8 ≠ magicV ∧ q = none) ∨ (b.take 8 = magicV ∧ ∃ xb, q = some ⟨xb, 0, none⟩ ∧ L w' (fun j => w.heap.size ≤ j ∧ j < w'.heap.size) xb (logRead b).1))
theorem Open_one (A : Option Addr) (c : Nat) (b : List Nat) (hb : Bytes b) (hlen : b.length ≤ 140737488355328) (hc : b.length ≤ c) (w : World) (hT : FmS w) (hr : SlAt w A (u8v b)) : Calls Tryz.prog 13 #[.slice A b.length c] w (OpenedP LogS b w) :=
  (Open_any A c b hb hlen hc w hT hr).mono fun e w' h => by
    rcases h with ⟨hno, rfl, hi⟩ | ⟨hm, xb, rfl, hL, hi⟩
    · exact ⟨none, by rw [logRead_no hno]; rfl, hi, .inl ⟨hno, rfl⟩⟩
    · exact ⟨_, rfl, hi, .inr ⟨hm, xb, rfl, hL⟩⟩
theorem Ropen_one (A : Option Addr) (c : Nat) (b : List Nat) (hb : Bytes b) (hlen : b.length ≤ 140737488355328) (hc : b.length ≤ c) (w : World) (hr : SlAt w A (u8v b)) : Calls Tryz.prog 20 #[.slice A b.length c] w (OpenedP RlogS b w) :=
  (Ropen_any A c b hb hlen hc w hr).mono fun e w' h => by
    rcases h with ⟨hno, rfl, hi⟩ | ⟨hm, xb, rfl, hL, hi⟩
    · exact ⟨none, by rw [logRead_no hno]; rfl, hi, .inl ⟨hno, rfl⟩⟩
    · exact ⟨_, rfl, hi, .inr ⟨hm, xb, rfl, hL⟩⟩
def Two (W : World) (lo : Nat) (px py : Option Addr) (rs : List Rec) (u : Bool) : Prop := (px = none ∧ py = none ∧ u = true) ∨ (u = false ∧ ∃ xb yb S Sy, px = some ⟨xb, 0, none⟩ ∧ py = some ⟨yb, 0, none⟩ ∧ LogS W S xb rs ∧ RlogS W Sy yb rs ∧ (∀ j, S j → ¬ Sy j) ∧ ∀ j, S j ∨ Sy j → lo ≤ j ∧ j < W.heap.size)
theorem Two.butS {W W' : World} {lo : Nat} {px py : Option Addr} {rs : List Rec} {u : Bool} {T : Nat → Prop} (h : Two W lo px py rs u) (k : ButS T W W') (hT : ∀ j, T j → j < lo) : Two W' lo px py rs u := by
  rcases h with h | ⟨hu, xb, yb, S, Sy, h1, h2, h3, h4, h5, h6⟩
  · exact .inl h
  · exact .inr ⟨hu, xb, yb, S, Sy, h1, h2, h3.butS k (fun j hj _ ht => by have := hT j ht; have := (h6 j (.inl hj)).1; omega), h4.butS k (fun j hj _ ht => by have := hT j ht; have := (h6 j (.inr hj)).1; omega), h5, fun j hj => ⟨(h6 j hj).1, Nat.lt_of_lt_of_le (h6 j hj).2 k.size⟩⟩
theorem Two.nil {W : World} {lo : Nat} {px py : Option Addr} {rs : List Rec} {u : Bool} (h : Two W lo px py rs u) : px.isNone = u ∧ py.isNone = u := by
  rcases h with ⟨rfl, rfl, rfl⟩ | ⟨rfl, xb, yb, S, Sy, rfl, rfl, _⟩
  · exact ⟨rfl, rfl⟩
  · exact ⟨rfl, rfl⟩
theorem two_of {b : List Nat} {w3 w W4 w5 U : World} {lo : Nat} {px py : Option Addr} (hx : (b.take 8 ≠ magicV ∧ px = none) ∨ (b.take 8 = magicV ∧ ∃ xb, px = some ⟨xb, 0, none⟩ ∧ LogS w3 (fun j => w.heap.size ≤ j ∧ j < w3.heap.size) xb (logRead b).1)) (hy : (b.take 8 ≠ magicV ∧ py = none) ∨ (b.take 8 = magicV ∧ ∃ yb, py = some ⟨yb, 0, none⟩ ∧ RlogS w5 (fun j => W4.heap.size ≤ j ∧ j < w5.heap.size) yb (logRead b).1)) (h1 : lo ≤ w.heap.size) (h2 : Within w w3) (h3 : Within w3 W4) (h4 : Within W4 w5) (h5 : Within w5 U) : ∃ u, Two U lo px py (logRead b).1 u := by
  rcases hx with ⟨h0, rfl⟩ | ⟨h0, xb, rfl, hX⟩
  · rcases hy with ⟨_, rfl⟩ | ⟨k0, _⟩
    · exact ⟨true, .inl ⟨rfl, rfl, rfl⟩⟩
    · exact absurd k0 h0
  · rcases hy with ⟨k0, _⟩ | ⟨_, yb, rfl, hY⟩
    · exact absurd h0 k0
    · have s2 := h2.size; have s3 := h3.size; have s4 := h4.size; have s5 := h5.size
      exact ⟨false, .inr ⟨rfl, xb, yb, _, _, rfl, rfl, hX.of ((h3.trans h4).trans h5), hY.of h5, fun j h1 h2 => by omega, fun j hj => by rcases hj with hj | hj <;> omega⟩⟩
theorem Two.pair {w W : World} {lo : Nat} {px py : Option Addr} {rs : List Rec} (h : Two W lo px py rs false) (hlo : w.heap.size ≤ lo) (hi : Within w W) (hok : ∀ q ∈ rs, q.Ok pf) (hle : rs.length ≤ 1048576) : ∃ xb yb, px = some ⟨xb, 0, none⟩ ∧ py = some ⟨yb, 0, none⟩ ∧ Pair w W xb yb rs rs NoX := by
  rcases h with ⟨_, _, h⟩ | ⟨_, xb, yb, S, Sy, h1, h2, h3, h4, h5, h6⟩
  · cases h
  · exact ⟨xb, yb, h1, h2, ⟨S, Sy, h3, h4, h5, fun j hj => ⟨⟨Nat.le_trans hlo (h6 j hj).1, (h6 j hj).2⟩, fun h => h⟩⟩, hok, hle, hle, hi⟩
end Go.Proofs.YtpmjlaiafgbjgaaGreatDoor
end

section
namespace Go.Proofs.YtpmjlaiafgbjgaaGreatDoor
open Go.RowKit
theorem run_store_num (P : Program) (w : World) (a : Addr) (k : FloatKind) (x : Nat) (m : Mode) : (store a (.float k x) m).run P w = stored P w a (.float k x) m := run_store P w a _ m rfl
attribute [local go_sem] run_store_num
set_option maxRecDepth 100000 in
set_option maxHeartbeats 4000000 in
theorem jfresh_walk (A : Option Addr) (c : Nat) (b : List Nat) (hb : Bytes b) (hlen : b.length ≤ 140737488355328) (hc : b.length ≤ c) (s : Int) (q t : Nat) (B : Option Addr) (cb : Nat) (l : List Nat) (hq : q < 4294967296) (ht : t < 4294967296) (hw : Words64 l) (hl : l.length * 8 ≤ 140737488355328) (k : Int) (D : Option Addr) (cd : Nat) (d : List Nat) (hd : Bytes d) (hdl : d.length ≤ 140737488355328) (hcd : d.length ≤ cd) (w : World) (hT : FmS w) (hr : SlAt w A (u8v b)) (hrb : SlAt w B (u64v l)) (hrd : SlAt w D (u8v d)) : Calls Tryz.prog 4 #[.slice A b.length c, .agg #[.int .i64 s, .int .u32 (q : Int), .int .u32 (t : Int), .slice B l.length cb], .agg #[.int .i64 k, .slice D d.length cd]] w fun e w' => e = .returned (.bool true) ∧ Within w w' := by
  obtain ⟨p, hp⟩ : ∃ p, w.heap.size = p := ⟨_, rfl⟩
  obtain ⟨ll, hll⟩ : ∃ n, l.length = n := ⟨_, rfl⟩
  obtain ⟨dl, hdd⟩ : ∃ n, d.length = n := ⟨_, rfl⟩
  obtain ⟨V0, hV0⟩ : ∃ V, V = w.alloc (.cells #[.int .i64 s, .int .u32 (q : Int), .int .u32 (t : Int), .slice B ll cb] 51) := ⟨_, rfl⟩
  have sV : V0.heap.size = p + 1 := by rw [hV0]; simp [hp]
  obtain ⟨W0, hW0⟩ : ∃ W, W = V0.alloc (.cells #[.int .i64 k, .slice D dl cd] 30) := ⟨_, rfl⟩
  have sW : W0.heap.size = p + 2 := by rw [hW0]; simp [sV]
  have hI : Within w W0 := by rw [hW0, hV0]; exact ((Within.refl w).alloc _).alloc _
  have iV : Within V0 W0 := by rw [hW0]; exact (Within.refl _).alloc _
  have x0 : W0.cell? ⟨p, 0, none⟩ = some (.int .i64 s) := (iV.cells _ _ (by omega)).trans (by rw [hV0, ← hp]; simp)
  have x1 : W0.cell? ⟨p, 1, none⟩ = some (.int .u32 (q : Int)) := (iV.cells _ _ (by omega)).trans (by rw [hV0, ← hp]; simp)
  have x2 : W0.cell? ⟨p, 2, none⟩ = some (.int .u32 (t : Int)) := (iV.cells _ _ (by omega)).trans (by rw [hV0, ← hp]; simp)
  have x3 : W0.cell? ⟨p, 3, none⟩ = some (.slice B ll cb) := (iV.cells _ _ (by omega)).trans (by rw [hV0, ← hp]; simp)
  have z0 : W0.cell? ⟨p + 1, 0, none⟩ = some (.int .i64 k) := by rw [hW0, ← sV]; simp
  have z1 : W0.cell? ⟨p + 1, 1, none⟩ = some (.slice D dl cd) := by rw [hW0, ← sV]; simp
  have HWW : Hid (W0 = (w.alloc (.cells #[.int .i64 s, .int .u32 (q : Int), .int .u32 (t : Int), .slice B ll cb] 51)).alloc (.cells #[.int .i64 k, .slice D dl cd] 30)) := Lib.hid (by rw [hW0, hV0])
  have SW := Lib.hid sW; clear hV0 hW0 sV iV
  obtain ⟨hok, hle⟩ := recs_ok hb
  obtain ⟨A1, c1, w1, hrun1, hc1, hs1, hO1, h1⟩ := copy_run W0 A c b hlen (hr.of hI)
  obtain ⟨A1', c1', g, e1, _, hg, _, hU1, _⟩ := hO1.u8s hb W0.heap.size (Nat.le_refl _)
  obtain ⟨rfl, _, rfl⟩ := Value.slice.inj e1
  clear e1 hO1
  have RD1 := Lib.hid (Read_any A1 c1 b hb hlen hc1 w1 (hT.of (hI.trans h1)) hs1)
  have OPN := Lib.hid (fun W (h : Within w1 W) => Open_one A1 c1 b hb hlen hc1 W (hT.of ((hI.trans h1).trans h)) (hs1.of h))
  have RR := Lib.hid (fun W (h : Within w1 W) => Rread_any A c b hb hlen hc W (hr.of ((hI.trans h1).trans h)))
  have ROP := Lib.hid (fun W (h : Within w1 W) => Ropen_one A c b hb hlen hc W (hr.of ((hI.trans h1).trans h)))
  have AW := Lib.hid (fun W (h : Within w W) => jawake_true W (hT.of h))
  have HT := Lib.hid hT; have HI := Lib.hid hI; have H1 := Lib.hid h1; have HOK := Lib.hid hok; have HLE := Lib.hid hle
  have ST : Hid (∀ W A' c', SlAt W A' (u8v b) → (convert 28 9 (.slice A' b.length c')).run Tryz.prog W = .ok (.string (strB b)) W) := Lib.hid (fun W A' c' h => run_str A' c' b W h)
  have SA := Lib.hid (fun W (h : Within w1 W) => hr.of ((hI.trans h1).trans h)); have SA1 := Lib.hid (fun W (h : Within w1 W) => hs1.of h)
  have RUN := Lib.hid hrun1; have HU1 := Lib.hid hU1; clear hrun1 hs1 hT hI h1 hr hok hle hU1
  unfold OpenedP at OPN ROP
  have TWO := Lib.hid (fun w3 w W4 w5 U lo px py => two_of (b := b) (w3 := w3) (w := w) (W4 := W4) (w5 := w5) (U := U) (lo := lo) (px := px) (py := py))
  obtain ⟨⟨rs, y, a⟩, hlr⟩ : ∃ t, logRead b = t := ⟨_, rfl⟩
  rw [hlr] at RD1 OPN RR ROP HOK HLE TWO
  clear hlr
  have HOK : Hid (∀ r ∈ rs, r.Ok pf) := HOK; have HLE : Hid (rs.length ≤ 1048576) := HLE
  have HIB : Hid (∀ r ∈ rs.map Rec.i, Bytes r.2) := Lib.hid (fun r hr => by obtain ⟨x, hx, rfl⟩ := List.mem_map.1 hr; exact (HOK.out x hx).bytes)
  have HRB : Hid (∀ r ∈ rs.map Rec.i, r.2.length ≤ 1048576) := Lib.hid (fun r hr => by obtain ⟨x, hx, rfl⟩ := List.mem_map.1 hr; exact (HOK.out x hx).parts.2.2)
  obtain ⟨is, his⟩ : ∃ x, rs.map Rec.i = x := ⟨_, rfl⟩
  have hisl : is.length = rs.length := by rw [← his, List.length_map]
  have HIL : Hid (is.length ≤ 1048576) := Lib.hid (by rw [hisl]; exact HLE.out)
  rw [his] at RD1 RR HRB HIB
  clear his hisl
  obtain ⟨n, hn⟩ : ∃ n, b.length = n := ⟨_, rfl⟩
  rw [hn] at RUN RD1 OPN RR ROP ST hlen hc hc1 HU1 ⊢
  clear hn
  obtain ⟨sb, hsb⟩ : ∃ x, strB b = x := ⟨_, rfl⟩
  rw [hsb] at ST
  have esb : (sb.toList != sb.toList) = false := by simp
  clear hsb
  obtain ⟨rn, hrn⟩ : ∃ n, is.length = n := ⟨_, rfl⟩
  have HRN := Lib.hid hrn
  rw [hrn] at HIL
  clear hrn
  rw [hll, hdd]
  have HLL := Lib.hid hll; have HDD := Lib.hid hdd
  rw [hll] at hl
  rw [hdd] at hdl hcd
  clear hll hdd
  obtain ⟨n1, hn1⟩ : ∃ n, w1.heap.size = n := ⟨_, rfl⟩
  have hpn : p + 2 ≤ n1 := by rw [← hn1, ← SW.out]; exact H1.out.size
  have HN1 := Lib.hid hn1; have HG1 : Hid (0 < n → p + 2 ≤ g ∧ g < n1) := Lib.hid (fun h => ⟨by rw [← SW.out]; exact hg, by rw [← hn1]; exact (HU1.out h).2.1⟩); clear hn1 sW hg
  go_enter Tryz.func4, Tryz.ntmps4
  go_upto_region 1 with fail
  rw [← HWW.out]
  have HP := Lib.hid hp; clear hp HWW
  go_wp2_with (at_builtin; refine wpList_append_run rfl (.tmp 24) (.tmp 25) 28 rfl _ _ rfl rfl RUN.out ?_)
  refine RD1.out.mono ?_; rintro e2 w2 ⟨lv, rfl, hL2, h2⟩
  clear RD1
  obtain ⟨A2, c2, rfl, hc2, hat2, hwa2⟩ := hL2.wipe
  rw [HRN.out]
  obtain ⟨n2, hn2⟩ : ∃ n, w2.heap.size = n := ⟨_, rfl⟩
  rw [hn2, HN1.out] at hwa2
  rw [HN1.out] at hat2
  have hn12 : n1 ≤ n2 := by rw [← hn2, ← HN1.out]; exact h2.size
  have HAT2 := Lib.hid hat2; have HWA2 := Lib.hid hwa2; have H2 := Lib.hid h2; have HN2 := Lib.hid hn2; clear hL2 hat2 hwa2 h2 hn2 hc2
  obtain ⟨W2, hW2⟩ : ∃ W, W = w2.alloc (.cells #[.int .i64 (y : Int), .int .i64 (a : Int)] 42) := ⟨_, rfl⟩
  have i2 : Within w2 W2 := by rw [hW2]; exact (Within.refl _).alloc _
  have H12 := Lib.hid (H2.out.trans i2); have HW2 := Lib.hid hW2; have I2 := Lib.hid i2; clear i2 hW2
  go_wp2_with fail
  rw [← HW2.out]
  refine (OPN.out W2 H12.out).mono ?_; rintro e3 w3 ⟨px, rfl, h3, hx3⟩
  clear OPN
  have H3 := Lib.hid h3; have HX3 := Lib.hid hx3; clear h3 hx3
  obtain ⟨W3, hW3⟩ : ∃ W, W = w3.alloc (.cells #[.int .i64 (y : Int), .int .i64 (a : Int)] 42) := ⟨_, rfl⟩
  have i3 : Within w3 W3 := by rw [hW3]; exact (Within.refl _).alloc _
  have H13 := Lib.hid ((H12.out.trans H3.out).trans i3); have HW3 := Lib.hid hW3; have I3 := Lib.hid i3; clear i3 hW3
  go_wp2_with fail
  rw [← HW3.out]
  refine (RR.out W3 H13.out).mono ?_; rintro e4 w4 ⟨lv4, rfl, hL4, h4⟩
  clear RR
  obtain ⟨A4, c4, rfl, hc4, _, _, hat4⟩ := hL4.at
  rw [HRN.out]
  have hat4 : RecAt w4 (fun k => n2 ≤ k) A4 is := hat4.weak (fun j hj => by have h1 := I2.out.size; have h2 := H3.out.size; have h3 := I3.out.size; have h4 := HN2.out; have h5 : W3.heap.size ≤ j := hj; show n2 ≤ j; omega)
  have H4 := Lib.hid h4; have HAT4 := Lib.hid hat4; clear h4 hat4 hL4 hc4
  obtain ⟨W4, hW4⟩ : ∃ W, W = w4.alloc (.cells #[.int .i64 (y : Int), .int .i64 (a : Int)] 42) := ⟨_, rfl⟩
  have i4 : Within w4 W4 := by rw [hW4]; exact (Within.refl _).alloc _
  have H14 := Lib.hid ((H13.out.trans H4.out).trans i4); have HW4 := Lib.hid hW4; have I4 := Lib.hid i4; clear i4 hW4
  go_wp2_with fail
  rw [← HW4.out]
  refine (ROP.out W4 H14.out).mono ?_; rintro e5 w5 ⟨py, rfl, h5, hy5⟩
  clear ROP
  have H5 := Lib.hid h5; have HY5 := Lib.hid hy5; clear h5 hy5
  obtain ⟨W5, hW5⟩ : ∃ W, W = w5.alloc (.cells #[.int .i64 (y : Int), .int .i64 (a : Int)] 42) := ⟨_, rfl⟩
  have i5 : Within w5 W5 := by rw [hW5]; exact (Within.refl _).alloc _
  have H15 := Lib.hid ((H14.out.trans H5.out).trans i5); have HW5 := Lib.hid hW5; have I5 := Lib.hid i5; clear i5 hW5
  have st1 := ST.out W5 A1 c1 (SA1.out W5 H15.out)
  have st2 := ST.out W5 A c (SA.out W5 H15.out)
  go_wp2_with (rw [← HW5.out])
  refine (AW.out W5 ((HI.out.trans H1.out).trans H15.out)).mono ?_; rintro e6 U ⟨rfl, h6⟩
  clear AW st1 st2
  have hIU : Within w U := ((HI.out.trans H1.out).trans H15.out).trans h6
  have h0U : Within W0 U := (H1.out.trans H15.out).trans h6
  obtain ⟨Z, hZ⟩ : ∃ Z : Nat → Prop, (fun j => p + 2 ≤ j ∧ j < n2) = Z := ⟨_, rfl⟩
  obtain ⟨G, hG⟩ : ∃ G : Nat → Prop, (fun b => 0 < n ∧ b = g) = G := ⟨_, rfl⟩
  obtain ⟨T, hTT⟩ : ∃ T : Nat → Prop, (fun j => n1 ≤ j ∧ j < n2) = T := ⟨_, rfl⟩
  have ZL : Hid (∀ j, Z j → p + 2 ≤ j ∧ j < n2) := Lib.hid (fun j hj => by rw [← hZ] at hj; exact hj)
  have ZI : Hid (∀ j, p + 2 ≤ j → j < n2 → Z j) := Lib.hid (fun j h1 h2 => by rw [← hZ]; exact ⟨h1, h2⟩)
  have GZ : Hid (∀ j, G j → p + 2 ≤ j ∧ j < n1) := Lib.hid (fun j hj => by rw [← hG] at hj; rw [hj.2]; exact HG1.out hj.1)
  have TZ : Hid (∀ j, T j → n1 ≤ j ∧ j < n2) := Lib.hid (fun j hj => by rw [← hTT] at hj; exact hj)
  have TI : Hid (∀ j, n1 ≤ j → j < n2 → T j) := Lib.hid (fun j h1 h2 => by rw [← hTT]; exact ⟨h1, h2⟩)
  have IW : Hid (∀ X, ButS Z U X → Within w X) := Lib.hid (fun X h => hIU.asides h (fun j hj => by have h1 := (ZL.out j hj).1; have h2 := HP.out; omega))
  have hp0 := World.block_lt_of_cell? _ _ x0
  have hp1 := World.block_lt_of_cell? _ _ z0
  have np : ¬ Z p := fun h => by have := (ZL.out p h).1; omega
  have np1 : ¬ Z (p + 1) := fun h => by have := (ZL.out _ h).1; omega
  have HPX : Hid (∀ X, ButS Z U X → X.cell? ⟨p, 0, none⟩ = some (.int .i64 s) ∧ X.cell? ⟨p, 1, none⟩ = some (.int .u32 (q : Int)) ∧ X.cell? ⟨p, 2, none⟩ = some (.int .u32 (t : Int)) ∧ X.cell? ⟨p, 3, none⟩ = some (.slice B ll cb) ∧ p < X.heap.size) := Lib.hid (fun X h => by have k := fun o => (h.cells p o (Nat.lt_of_lt_of_le hp0 h0U.size) np).trans (h0U.cells p o hp0); exact ⟨(k 0).trans x0, (k 1).trans x1, (k 2).trans x2, (k 3).trans x3, Nat.lt_of_lt_of_le hp0 (Nat.le_trans h0U.size h.size)⟩)
  have HZX : Hid (∀ X, ButS Z U X → X.cell? ⟨p + 1, 0, none⟩ = some (.int .i64 k) ∧ X.cell? ⟨p + 1, 1, none⟩ = some (.slice D dl cd) ∧ p + 1 < X.heap.size) := Lib.hid (fun X h => by have k := fun o => (h.cells (p + 1) o (Nat.lt_of_lt_of_le hp1 h0U.size) np1).trans (h0U.cells (p + 1) o hp1); exact ⟨(k 0).trans z0, (k 1).trans z1, Nat.lt_of_lt_of_le hp1 (Nat.le_trans h0U.size h.size)⟩)
  have HM : Hid (∀ X, ButS Z U X → RecAt X (fun k => n2 ≤ k) A4 is) := Lib.hid (fun X h => (HAT4.out.of ((I4.out.trans H5.out).trans (I5.out.trans h6))).butS h (fun j hj hz => by have := (ZL.out j hz).2; omega))
  have h2U : Within w2 U := (((I2.out.trans H3.out).trans I3.out).trans H4.out).trans (((I4.out.trans H5.out).trans I5.out).trans h6)
  have H2U : Hid (n2 ≤ U.heap.size) := Lib.hid (by rw [← HN2.out]; exact h2U.size)
  have HL : Hid (∀ X, ButS G U X → RecAt X (fun k => n1 ≤ k) A2 is ∧ WipeAt X A2 n1 n2 is) := Lib.hid (fun X h => ⟨(HAT2.out.of h2U).butS h (fun j hj hg => by have := (GZ.out j hg).2; omega), (HWA2.out.butS (ButS.in_ (S := G) h2U) (fun j hj hg => by have := (GZ.out j hg).2; omega)).butS h (fun j hj hg => by have := (GZ.out j hg).2; omega)⟩)
  have GtoZ : Hid (∀ X, ButS G U X → ButS Z U X) := Lib.hid (fun X h => h.mono (fun j _ hj => ZI.out j (GZ.out j hj).1 (by have := (GZ.out j hj).2; omega)))
  obtain ⟨u, hu⟩ := TWO.out w3 W2 W4 w5 U n2 px py HX3.out HY5.out (by rw [← HN2.out]; exact I2.out.size) H3.out ((I3.out.trans H4.out).trans I4.out) H5.out (I5.out.trans h6)
  obtain ⟨eu1, eu2⟩ := hu.nil
  have HTW : Hid (∀ X, ButS Z U X → Two X n2 px py rs u) := Lib.hid (fun X h => hu.butS h (fun j hj => (ZL.out j hj).2))
  have HU7 : Hid (0 < n → A1 = some ⟨g, 0, none⟩ ∧ g < U.heap.size ∧ U8s U g n) := Lib.hid (fun h => ⟨(HU1.out h).1, Nat.lt_of_lt_of_le (HU1.out h).2.1 (H15.out.trans h6).size, (HU1.out h).2.2.of (H15.out.trans h6) (HU1.out h).2.1⟩)
  have SM := Lib.hid (fun W A B c d h1 h2 => Rsame22_at A B c d is (by rw [HRN.out]; have := HIL.out; omega) W h1 h2)
  have RDS := Lib.hid (fun D A c W hT h => Readings_any D A c is (by rw [HRN.out]; have := HIL.out; omega) (fun r hr => by have := HRB.out r hr; omega) W hT h)
  have RRD := Lib.hid (fun D A c W h => Rreadings_any D A c is (by rw [HRN.out]; have := HIL.out; omega) (fun r hr => by have := HRB.out r hr; omega) W h)
  rw [HRN.out] at SM RDS RRD
  have OF := Lib.hid (fun W (h : Within w W) => Of_any s (q : Int) (t : Int) B cb l hw (by rw [HLL.out]; exact hl) W (hrb.of h))
  have RDG := Lib.hid (fun W A' c' (h : Within w W) (hs : SlAt W A' (f64v l)) => Reading_any s q t A' c' l hq ht hw (by rw [HLL.out]; omega) W (HT.out.of h) hs)
  have RPK := Lib.hid (fun W A' c' (hs : SlAt W A' (f64v l)) => Rpack_any s q t A' c' l hq ht hw (by rw [HLL.out]; omega) W hs)
  unfold ReadingP at RDG
  rw [HLL.out] at OF RDG RPK
  have RVL : Hid ((readingsV is).length ≤ 1152921504606846976) := Lib.hid (by have := readingsV_len is; rw [HRN.out] at this; have := HIL.out; omega)
  have RVV : Hid (∀ r ∈ readingsV is, r.vals.length ≤ 6) := Lib.hid (fun r hr => readingsV_six (fun r hr => by have := HRB.out r hr; omega) HIB.out r hr)
  obtain ⟨rv, hrv⟩ : ∃ x, readingsV is = x := ⟨_, rfl⟩
  rw [hrv] at RDS RRD RVL RVV
  clear hrv
  obtain ⟨cv, hcv⟩ : ∃ x, checkV pf s l = x := ⟨_, rfl⟩
  rw [hcv] at RDG RPK
  clear hcv
  obtain ⟨pl, hpl⟩ : ∃ x, packL s q t l = x := ⟨_, rfl⟩
  rw [hpl] at RDG RPK
  clear hpl
  obtain ⟨pn, hpn'⟩ : ∃ n, pl.length = n := ⟨_, rfl⟩
  have PLN := Lib.hid hpn'
  clear hpn'
  obtain ⟨sp, hsp⟩ : ∃ x, strB pl = x := ⟨_, rfl⟩
  have ST2 : Hid (∀ W A' c', SlAt W A' (u8v pl) → (convert 28 9 (.slice A' pn c')).run Tryz.prog W = .ok (.string sp) W) := Lib.hid (fun W A' c' h => by rw [← PLN.out, ← hsp]; exact run_str A' c' pl W h)
  have esp : (sp.toList != sp.toList) = false := by simp
  clear hsp
  have HGE := Lib.hid hG; clear hIU h0U hu hZ hG hTT x0 x1 x2 x3 z0 z1 np np1 h2U h6 hp0 hp1 hb hw hq ht hrb TWO HX3 HY5 HW2 HW3 HW4 HW5 I2 I3 I4 I5 H12 H13 H14 H3 H4 H5 HAT2 HWA2 HAT4 HU1 SA SA1 ST RUN
  go_wp2_with fail
  refine (wipe_any A1 c1 n g hlen hc1 U HU7.out).mono ?_; rintro e7 w7 ⟨⟨v7, rfl⟩, hk7, _⟩
  rw [HGE.out] at hk7
  have HQ7 := Lib.hid hk7; clear hk7
  go_wp2_with fail
  refine (SM.out w7 A2 A4 c2 c4 (HL.out w7 HQ7.out).1.g (HM.out w7 (GtoZ.out w7 HQ7.out)).g).mono ?_; rintro e8 w8 ⟨rfl, h8⟩
  have HQ8 := Lib.hid (HQ7.out.within h8); clear h8 HQ7
  go_wp2_with fail
  refine (RDS.out _ A2 c2 w8 (HT.out.of (IW.out w8 (GtoZ.out w8 HQ8.out))) (HL.out w8 HQ8.out).1).mono ?_; rintro e9 w9 ⟨v9, rfl, hO9, h9⟩
  have HQ9 := Lib.hid (HQ8.out.within h9)
  have hn28 : n2 ≤ w8.heap.size := by have h1 := HQ8.out.size; have h2 := H2U.out; omega
  obtain ⟨A9, c9, rfl, _⟩ := hO9.form
  have HO9 := Lib.hid (hO9.less hn28); clear hO9 h9
  have HW9 := Lib.hid (HL.out w9 HQ9.out).2
  have hrnb : rn ≤ 1048576 := HIL.out
  go_wp2
  go_loopw [17] (fun iv wz => ∃ i : Nat, i ≤ rn ∧ iv = .int .i64 (i : Int) ∧ ButS T w9 wz ∧ (∀ ad, A2 = some ad → wz.heap[ad.block]? = w9.heap[ad.block]?) ∧ ∀ b n, U8s w9 b n → U8s wz b n) (fun iv _ => rn - (intOf iv).toNat)
  case atStart => exact ⟨0, Nat.zero_le _, rfl, ButS.refl _ _, fun ad _ => rfl, fun b n h => h⟩
  case round =>
    obtain ⟨i, hi, rfl, hbut, hls, hus⟩ := hrel
    by_cases hlt : i < rn
    · obtain ⟨r, hr⟩ : ∃ r, is[i]? = some r := ⟨_, List.getElem?_eq_getElem (by rw [HRN.out]; exact hlt)⟩
      obtain ⟨ad, Dv, cr, gd, rfl, had, hadl, hcell, hrc, hrg⟩ := HW9.out i r hr
      obtain ⟨rl, hrl⟩ : ∃ n, r.2.length = n := ⟨_, rfl⟩
      have hrlb : rl ≤ 140737488355328 := by have := HRB.out r (List.mem_of_getElem? hr); omega
      rw [hrl] at hcell hrc hrg
      have cc1 : wr.cell? ⟨(ad.add (i * 2)).block, (ad.add (i * 2)).off + 1, none⟩ = some (.slice Dv rl cr) := (show wr.cell? ⟨(ad.add (i * 2)).block, (ad.add (i * 2)).off + 1, none⟩ = w9.cell? ⟨(ad.add (i * 2)).block, (ad.add (i * 2)).off + 1, none⟩ from World.cell?_of_block (show wr.heap[(ad.add (i * 2)).block]? = w9.heap[(ad.add (i * 2)).block]? by rw [add_block]; exact hls ad rfl)).trans hcell
      have cl : ad.block < wr.heap.size := Nat.lt_of_lt_of_le hadl hbut.size
      have lt1 : (i : Int) < (rn : Int) := by omega
      have WP := Lib.hid (wipe_any Dv cr rl gd hrlb hrc wr (fun h => ⟨(hrg h).1, Nat.lt_of_lt_of_le (hrg h).2.2.2.1 hbut.size, hus _ _ (hrg h).2.2.2.2.2⟩))
      have HBUT := Lib.hid hbut; have HUS := Lib.hid hus; have HLS := Lib.hid hls; have HRG := Lib.hid hrg; have HCL := Lib.hid cl; clear hbut hus hls hrg hr hrl hcell hadl had hrc
      go_wp2_with fail
      refine WP.out.mono ?_; rintro e10 w10 ⟨⟨v10, rfl⟩, hk10, hus10⟩
      have HK10 := Lib.hid hk10; have HU10 := Lib.hid hus10; clear hk10 hus10 cc1
      go_wp2
      go_roundw
      case rel => exact ⟨i + 1, hlt, by go_num, HBUT.out.trans HK10.out (fun j _ h => by rw [h.2]; exact TI.out _ (HRG.out h.1).2.1 (HRG.out h.1).2.2.1), fun a' e => by obtain rfl : ad = a' := Option.some.inj e; exact (HK10.out.block _ HCL.out (fun h => (HRG.out h.1).2.2.2.2.1 h.2.symm)).trans (HLS.out ad rfl), fun b n h => HU10.out b n (HUS.out b n h)⟩
      case measure => simp [intOf]; omega
    · obtain rfl : i = rn := by omega
      have lt2 : decide ((i : Int) < (i : Int)) = false := decide_eq_false (by omega)
      have hq10 : ButS Z U wr := (GtoZ.out _ HQ9.out).trans hbut (fun j _ h => ZI.out j (by have := (TZ.out j h).1; omega) (TZ.out j h).2)
      have hR10 := HO9.out.keep (w' := wr) (fun j h1 h2 => hbut.block j h2 (fun ht => by have := (TZ.out j ht).2; omega))
      obtain ⟨A9', c9', e9, _, hR10, _⟩ := hR10.at
      obtain ⟨rfl, _, rfl⟩ := Value.slice.inj e9
      have HQ10 := Lib.hid hq10; have HR10 := Lib.hid hR10; clear hq10 hR10 hbut hls hus e9 HW9 HO9
      go_wp2_with fail
      refine (RRD.out _ A4 c4 wr (HM.out wr HQ10.out)).mono ?_; rintro e11 w11 ⟨v11, rfl, hO11, h11⟩
      obtain ⟨A11, c11, rfl, _, hR11, _⟩ := hO11.at
      have SL := Lib.hid (Rsameall_any A9 A11 c9 c11 rv RVL.out RVV.out w11 (HR10.out.of h11) hR11)
      have HQ11 := Lib.hid (HQ10.out.within h11)
      clear hO11 hR11 h11
      go_wp2_with fail
      refine SL.out.mono ?_; rintro e12 w12 ⟨rfl, h12⟩
      have HQ12 := Lib.hid (HQ11.out.within h12)
      clear h12 SL
      obtain ⟨x0, x1, x2, x3, xl⟩ := HPX.out w12 HQ12.out
      go_wp2_with fail
      refine (OF.out w12 (IW.out w12 HQ12.out)).mono ?_; rintro e13 w13 ⟨v13, rfl, hO13, h13⟩
      obtain ⟨A13, c13, ga, rfl, _, hga, hs13, hF13⟩ := hO13.f64s w12.heap.size (Nat.le_refl _)
      rw [HLL.out] at hF13 ⊢
      obtain ⟨W13, hW13⟩ : ∃ W, W = w13.alloc (.cells #[.int .i64 s, .int .u32 (q : Int), .int .u32 (t : Int), .slice A13 ll c13] 64) := ⟨_, rfl⟩
      have i13 : Within w13 W13 := by rw [hW13]; exact (Within.refl _).alloc _
      obtain ⟨pa, hpa⟩ : ∃ n, w13.heap.size = n := ⟨_, rfl⟩
      have s13 : W13.heap.size = pa + 1 := by rw [hW13, ← hpa]; simp
      have y0 : W13.cell? ⟨pa, 0, none⟩ = some (.int .i64 s) := by rw [hW13, ← hpa]; simp
      have y1 : W13.cell? ⟨pa, 1, none⟩ = some (.int .u32 (q : Int)) := by rw [hW13, ← hpa]; simp
      have y2 : W13.cell? ⟨pa, 2, none⟩ = some (.int .u32 (t : Int)) := by rw [hW13, ← hpa]; simp
      have y3 : W13.cell? ⟨pa, 3, none⟩ = some (.slice A13 ll c13) := by rw [hW13, ← hpa]; simp
      have HQ13 := Lib.hid (HQ12.out.within (h13.trans i13))
      have hga2 : 0 < ll → w12.heap.size ≤ ga ∧ ga < pa := fun h => ⟨hga, by rw [← hpa]; exact (hF13 h).2.1⟩
      have HGA : Hid (0 < ll → U.heap.size ≤ ga ∧ ga < pa) := Lib.hid (fun h => ⟨Nat.le_trans HQ12.out.size (hga2 h).1, (hga2 h).2⟩)
      have HF13 : Hid (0 < ll → A13 = some ⟨ga, 0, none⟩ ∧ F64s W13 ga ll) := Lib.hid (fun h => ⟨(hF13 h).1, (hF13 h).2.2.of i13 (hF13 h).2.1⟩)
      have HS13 := Lib.hid (hs13.of i13)
      have HW13 := Lib.hid hW13; have HPA := Lib.hid hpa; have S13 := Lib.hid s13; clear hO13 h13 i13 hga hga2 hF13 hs13 hW13 hpa s13 x0 x1 x2 x3 xl
      have yl : pa < W13.heap.size := by rw [S13.out]; omega
      go_upto_region 19 with fail
      rw [HPA.out, ← HW13.out]
      go_wp2_with fail
      refine (RDG.out W13 A13 c13 (IW.out W13 HQ13.out) HS13.out).mono ?_; rintro e14 w14 ⟨k14, v14, rfl, hk14, hO14, h14⟩
      clear hk14
      obtain ⟨A14, c14, rfl, _, _, _⟩ := hO14.form
      rw [PLN.out] at hO14 ⊢
      obtain ⟨W14, hW14⟩ : ∃ W, W = w14.alloc (.cells #[.int .i64 k14, .slice A14 pn c14] 30) := ⟨_, rfl⟩
      have i14 : Within w14 W14 := by rw [hW14]; exact (Within.refl _).alloc _
      obtain ⟨pk, hpk⟩ : ∃ n, w14.heap.size = n := ⟨_, rfl⟩
      have s14 : W14.heap.size = pk + 1 := by rw [hW14, ← hpk]; simp
      have u1 : W14.cell? ⟨pk, 1, none⟩ = some (.slice A14 pn c14) := by rw [hW14, ← hpk]; simp
      have hpp : pa < pk := by rw [← hpk]; exact Nat.lt_of_lt_of_le yl h14.size
      have i1314 := h14.trans i14
      have y3' := (i1314.cells _ _ yl).trans y3
      have HF14 : Hid (0 < ll → A13 = some ⟨ga, 0, none⟩ ∧ F64s W14 ga ll) := Lib.hid (fun h => ⟨(HF13.out h).1, (HF13.out h).2.of i1314 (by have := (HGA.out h).2; omega)⟩)
      have HQ14 := Lib.hid (HQ13.out.within i1314)
      have HO14 := Lib.hid (hO14.of i14)
      have HW14 := Lib.hid hW14; have HPK := Lib.hid hpk; have S14 := Lib.hid s14; have U1 := Lib.hid u1; have Y3 := Lib.hid y3'; clear hO14 h14 i14 i1314 hW14 hpk s14 u1 y0 y1 y2 y3 y3'
      go_upto_region 20 with fail
      rw [HPK.out, ← HW14.out]
      go_wp2
      obtain ⟨Ga, hGa⟩ : ∃ G : Nat → Prop, (fun b => 0 < ll ∧ b = ga) = G := ⟨_, rfl⟩
      have HGL : Hid (∀ j, Ga j → 0 < ll ∧ j = ga) := Lib.hid (fun j hj => by rw [← hGa] at hj; exact hj)
      have HGI : Hid (0 < ll → Ga ga) := Lib.hid (fun h => by rw [← hGa]; exact ⟨h, rfl⟩)
      clear hGa
      go_loopw [21] (fun iv wz => ∃ i : Nat, i ≤ ll ∧ iv = .int .i64 (i : Int) ∧ ButS Ga W14 wz ∧ (0 < ll → F64s wz ga ll)) (fun iv _ => ll - (intOf iv).toNat)
      case atStart => exact ⟨0, Nat.zero_le _, rfl, ButS.refl _ _, fun h => (HF14.out h).2⟩
      case round =>
        obtain ⟨i2, hi2, rfl, hbut, hfs⟩ := hrel
        have y3 := (hbut.cells pa 3 (by have := S14.out; omega) (fun h => by have h1 := HGL.out _ h; have := (HGA.out h1.1).2; have := h1.2; omega)).trans Y3.out
        have yl2 : pa < wr.heap.size := by have h1 := hbut.size; have h2 := S14.out; omega
        by_cases hlt2 : i2 < ll
        · have h0 : 0 < ll := by omega
          obtain ⟨rfl, _⟩ := HF14.out h0
          obtain ⟨x, cx⟩ := (hfs h0).1 i2 hlt2
          have fx := (hfs h0).2
          have gl : ga < wr.heap.size := World.block_lt_of_cell? _ _ cx
          have lt3 : (i2 : Int) < (ll : Int) := by omega
          have HBUT := Lib.hid hbut; have HFS := Lib.hid (hfs h0); clear hbut hfs
          go_wp2
          go_roundw
          case rel => exact ⟨i2 + 1, hlt2, by go_num, HBUT.out.set (p := ⟨ga, i2, none⟩) (.inl (HGI.out h0)) _, fun _ => HFS.out.set i2 _⟩
          case measure => simp [intOf]; omega
        · obtain rfl : i2 = ll := by omega
          have lt4 : decide ((i2 : Int) < (i2 : Int)) = false := decide_eq_false (by omega)
          have hq15 : ButS Z U wr := HQ14.out.trans hbut (fun j hj h => by have h1 := HGL.out _ h; have h2 := (HGA.out h1.1).1; have h3 := h1.2; omega)
          have u1 := (hbut.cells pk 1 (by have := S14.out; omega) (fun h => by have h1 := HGL.out _ h; have := (HGA.out h1.1).2; have := h1.2; omega)).trans U1.out
          have ul : pk < wr.heap.size := World.block_lt_of_cell? _ _ u1
          have hO15 := HO14.out.keepS hbut (fun j hj h => by have h1 := HGL.out _ h; have h2 := (HGA.out h1.1).2; have h3 := h1.2; have h4 := S13.out; omega)
          obtain ⟨A15, c15, e15, _, hs15, _⟩ := hO15.form
          obtain ⟨rfl, e15', rfl⟩ := Value.slice.inj e15
          clear e15'
          have HQ15 := Lib.hid hq15; have HS15 := Lib.hid hs15; clear hq15 hs15 hO15 e15 hbut hfs
          obtain ⟨x0, x1, x2, x3, xl⟩ := HPX.out wr HQ15.out
          go_wp2_with fail
          refine (OF.out wr (IW.out wr HQ15.out)).mono ?_; rintro e16 w16 ⟨v16, rfl, hO16, h16⟩
          obtain ⟨A16, c16, rfl, _, hs16, _⟩ := hO16.form
          rw [HLL.out]
          have HS16 := Lib.hid hs16; clear hO16 hs16 y3 yl2
          go_wp2_with fail
          refine (RPK.out w16 A16 c16 HS16.out).mono ?_; rintro e17 w17 ⟨v17, rfl, hO17, h17⟩
          obtain ⟨A17, c17, rfl, _, hs17, _⟩ := hO17.form
          rw [PLN.out]
          have h1517 := h16.trans h17
          have u1 := (h1517.cells _ _ ul).trans u1
          have ul := Nat.lt_of_lt_of_le ul h1517.size
          have st3 := ST2.out w17 A14 c14 (HS15.out.of h1517)
          have st4 := ST2.out w17 A17 c17 hs17
          have HQ17 := Lib.hid (HQ15.out.within h1517)
          obtain ⟨z0, z1, zl⟩ := HZX.out w17 HQ17.out
          clear hO17 hs17 h16 h17 h1517 x0 x1 x2 x3 xl
          have hiw := IW.out w17 HQ17.out
          have htw := HTW.out w17 HQ17.out
          cases u
          · obtain ⟨xb, yb, rfl, rfl, hP17⟩ := htw.pair (w := w) (by have := HP.out; omega) hiw HOK.out HLE.out
            have RG := Lib.hid (ranges_pair w w17 xb yb rs hP17 k D cd d hd (by rw [HDD.out]; exact hcd) (by rw [HDD.out]; exact hdl) HT.out hrd)
            rw [HDD.out] at RG
            clear hP17 htw hiw hrd
            go_wp2_with fail
            refine RG.out.mono ?_; rintro e18 w18 ⟨rfl, h18⟩
            go_wp2
            go_ret
            exact ⟨rfl, h18⟩
          · obtain ⟨rfl, rfl⟩ : px = none ∧ py = none := by rcases htw with ⟨h1, h2, _⟩ | ⟨h, _⟩; exact ⟨h1, h2⟩; cases h
            have HIW := Lib.hid hiw; clear htw hiw hrd
            go_wp2
            go_ret
            exact ⟨rfl, HIW.out⟩
end Go.Proofs.YtpmjlaiafgbjgaaGreatDoor
end

section
namespace Go.Proofs.YtpmjlaiafgbjgaaGreatDoor.Base
open Go.ChangeShapes Go.WideShapes Go.ChangeAt Go.RowKit
theorem own : ownKnob Tryz.prog.godebug = none := by kernel_rfl
theorem laidOut : laidOutB Tryz.prog = true := by kernel_rfl
theorem gS : Tryz.prog.globalNamed "binnacle/convert.single" = some 1 := by kernel_rfl
theorem gST : (Tryz.prog.globals[1]?).map (·.type) = some 148 := by kernel_rfl
theorem cellsI : Tryz.prog.cellsOf 3 = 1 := by kernel_rfl
theorem fmt_cells {W : World} {name : String} {g : Nat} {a b c : Int} {rest : List (String × DataW Unit)} {ps : List MemPlace}
    (hg : Tryz.prog.globalNamed name = some g) (hty : (Tryz.prog.globals[g]?).map (·.type) = some 148)
    (h : DataW.LaidVars Tryz.prog W ((name, .agg [.lit (.int .i64 a), .lit (.int .i64 b), .lit (.int .i64 c)]) :: rest) ps) :
    (W.cell? ⟨g, 0, none⟩ = some (.int .i64 a) ∧ W.cell? ⟨g, 1, none⟩ = some (.int .i64 b) ∧ W.cell? ⟨g, 2, none⟩ = some (.int .i64 c)) ∧ ∃ q, DataW.LaidVars Tryz.prog W rest q := by
  obtain ⟨g', t', cs, fuel, p, q, hg', ht', hvar, hd, hr, _⟩ := h
  obtain rfl := Option.some.inj (hg.symm.trans hg')
  obtain rfl := Option.some.inj (hty.symm.trans ht')
  obtain ⟨y0, y1, y2, n, hx, hl, h0, h1, h2⟩ := Go.Deep.trod_struct3 Tryz.underlying148 hd
  obtain ⟨c0, e0, x0, _⟩ := DataW.trod_int Tryz.underlying3 h0
  obtain ⟨c1, e1, x1, _⟩ := DataW.trod_int Tryz.underlying3 h1
  obtain ⟨c2, e2, x2, _⟩ := DataW.trod_int Tryz.underlying3 h2
  subst x0 x1 x2
  have hx1 := congrArg Prod.fst hx
  simp at hx1
  obtain ⟨rfl, rfl, rfl⟩ := hx1
  have v := World.var?_cell hg hvar
  refine ⟨⟨?_, ?_, ?_⟩, q, hr⟩
  · rw [v 0]
    have := congrArg (·[0]?) e0
    simpa [cellsI, List.getElem?_take, List.getElem?_drop] using this
  · rw [v 1]
    have := congrArg (·[0]?) e1
    simpa [cellsI, List.getElem?_take, List.getElem?_drop] using this
  · rw [v 2]
    have := congrArg (·[0]?) e2
    simpa [cellsI, List.getElem?_take, List.getElem?_drop] using this
theorem fmS {W : World} {rest : List (String × DataW Unit)} (h : laidMet Tryz.prog (("binnacle/convert.single", Rows.laid_binnacle_convert_single) :: rest) W) : FmS W := by
  obtain ⟨ps, h1, _⟩ := h
  exact (fmt_cells gS gST h1).1
theorem nat_of_u32 {n : Int} (h : (Lit.int .u32 n).wf = true) : ∃ a : Nat, n = a ∧ a < 4294967296 := by
  simp only [Lit.wf, Bool.and_eq_true, decide_eq_true_eq] at h
  have h1 : (0 : Int) ≤ n := h.1
  have h2 : n ≤ 4294967295 := h.2
  exact ⟨n.toNat, by omega, by omega⟩
theorem int_of_i64 {n : Int} (h : (Lit.int .i64 n).wf = true) : -9223372036854775808 ≤ n ∧ n < 9223372036854775808 := by
  simp only [Lit.wf, Bool.and_eq_true, decide_eq_true_eq] at h
  have h1 : (-9223372036854775808 : Int) ≤ n := h.1
  have h2 : n ≤ 9223372036854775807 := h.2
  exact ⟨h1, by omega⟩
def layVar (g : Nat) (cs : Array Value) (h : Array Obj) : Array Obj := h.modify g fun
  | .cells _ t frozen => .cells cs t frozen
  | o => o
noncomputable def laidWorld (os : Os) : World :=
  { World.holding Tryz.prog os ⟨#[], #[], []⟩ with heap := layVar 1 #[.int .i64 24, .int .i64 (-126), .int .i64 127] (World.holding Tryz.prog os ⟨#[], #[], []⟩).heap }
section
variable {H : Type} {enc : TypeId × Value → H} {W : World}
theorem open_ns {t e : TypeId} {k : IntKind} {y : Nat} (ht : Tryz.prog.underlying t = some (.slice e)) (he : Tryz.prog.underlying e = some (.int k)) (hc : Tryz.prog.cellsOf e = 1) (hy : Tryz.prog.bytesOf e = y) {fuel : Nat} {v : Value} {x : DataW H × List MemPlace}
    (h : DataW.trod enc Tryz.prog W 0 (fun _ => true) true fuel t [v] = some x) (hz : ∀ n ∈ x.1.weights Tryz.prog t, n ≤ reachBytes) :
    ∃ (a0 : Option Addr) (cap : Nat) (zs : List Int), v = .slice a0 zs.length cap ∧ zs.length ≤ cap ∧ zs.length * y ≤ reachBytes ∧ (∀ n ∈ zs, (Lit.int k n).wf = true) ∧ SlAt W a0 (zs.map (Value.int k)) := by
  rcases open_ints ht he hc h with ⟨hcs, hx⟩ | ⟨a, len, cap, zs, hcs, _, hl, hm, hzl, hx, hcell, hwz⟩
  · simp at hcs
    exact ⟨none, 0, [], hcs, Nat.le_refl _, by simp, (fun n hn => absurd hn (by simp)), SlAt.nil⟩
  · simp at hcs
    simp only [if_true] at hzl
    subst hx
    have hlen : (zs.take len).length = len := by rw [List.length_take]; omega
    refine ⟨some a, cap, zs.take len, by rw [hlen]; exact hcs, by rw [hlen]; exact hl, ?_, fun n hn => hwz n (List.mem_of_mem_take hn), fun hn => ?_⟩
    · have hw := hz (cap * y) (by
        rw [DataW.weights, ht]
        refine List.mem_cons.2 (.inl ?_)
        rw [hy, show (lits (H := H) k (zs.take len)).length + (lits (H := H) k (zs.drop len)).length = cap by
          unfold lits; rw [List.length_map, List.length_map, List.length_take, List.length_drop]; omega])
      rw [hlen]
      exact Nat.le_trans (Nat.mul_le_mul_right _ hl) hw
    · rw [List.length_map, hlen] at hn
      have h0 := hcell 0 (by omega)
      refine ⟨a, rfl, by have := World.block_lt_of_cell? _ _ h0; rwa [add_block] at this, fun j u hu => ?_⟩
      rw [List.getElem?_map, Option.map_eq_some_iff] at hu
      obtain ⟨z, hz1, rfl⟩ := hu
      obtain ⟨hj, hz2⟩ := List.getElem?_eq_some_iff.1 hz1
      rw [hlen] at hj
      rw [hcell j (by omega)]
      rw [List.getElem_take] at hz2
      simp [List.getD, List.getElem?_eq_getElem (show j < zs.length by omega), hz2]
theorem nats_of {k : IntKind} {m : Nat} (hk : ∀ n : Int, (Lit.int k n).wf = true → 0 ≤ n ∧ n < m) {zs : List Int} (h : ∀ n ∈ zs, (Lit.int k n).wf = true) : ∃ l : List Nat, zs = l.map (fun (x : Nat) => (x : Int)) ∧ ∀ x ∈ l, x < m := by
  refine ⟨zs.map Int.toNat, ?_, fun x hx => ?_⟩
  · rw [List.map_map]
    conv => lhs; rw [← List.map_id zs]
    refine List.map_congr_left fun n hn => ?_
    have := (hk n (h n hn)).1
    simp only [id, Function.comp]; omega
  · obtain ⟨n, hn, rfl⟩ := List.mem_map.1 hx
    have := hk n (h n hn)
    omega
theorem wf_u8 (n : Int) (h : (Lit.int .u8 n).wf = true) : 0 ≤ n ∧ n < (256 : Nat) := by
  simp only [Lit.wf, Bool.and_eq_true, decide_eq_true_eq] at h
  have h1 : (0 : Int) ≤ n := h.1
  have h2 : n ≤ 255 := h.2
  omega
theorem wf_u64 (n : Int) (h : (Lit.int .u64 n).wf = true) : 0 ≤ n ∧ n < (18446744073709551616 : Nat) := by
  simp only [Lit.wf, Bool.and_eq_true, decide_eq_true_eq] at h
  have h1 : (0 : Int) ≤ n := h.1
  have h2 : n ≤ 18446744073709551615 := h.2
  omega
set_option maxRecDepth 100000 in
theorem open_u8 {fuel : Nat} {v : Value} {x : DataW H × List MemPlace} (h : DataW.trod enc Tryz.prog W 0 (fun _ => true) true fuel 28 [v] = some x) (hz : ∀ n ∈ x.1.weights Tryz.prog 28, n ≤ reachBytes) :
    ∃ (a0 : Option Addr) (cap : Nat) (l : List Nat), v = .slice a0 l.length cap ∧ l.length ≤ cap ∧ l.length ≤ 140737488355328 ∧ Bytes l ∧ SlAt W a0 (u8v l) := by
  obtain ⟨a0, cap, zs, h1, h2, h3, h4, h5⟩ := open_ns (y := 1) Tryz.underlying28 Tryz.underlying5 (by kernel_rfl) (by kernel_rfl) h hz
  obtain ⟨l, rfl, hl⟩ := nats_of wf_u8 h4
  rw [List.length_map] at h1 h2 h3
  refine ⟨a0, cap, l, h1, h2, ?_, hl, ?_⟩
  · have : reachBytes = 140737488351232 := rfl
    omega
  · unfold u8v; rw [List.map_map] at h5; exact h5
set_option maxRecDepth 100000 in
theorem open_u64 {fuel : Nat} {v : Value} {x : DataW H × List MemPlace} (h : DataW.trod enc Tryz.prog W 0 (fun _ => true) true fuel 49 [v] = some x) (hz : ∀ n ∈ x.1.weights Tryz.prog 49, n ≤ reachBytes) :
    ∃ (a0 : Option Addr) (cap : Nat) (l : List Nat), v = .slice a0 l.length cap ∧ l.length ≤ cap ∧ l.length * 8 ≤ 140737488355328 ∧ (∀ x ∈ l, x < 18446744073709551616) ∧ SlAt W a0 (u64v l) := by
  obtain ⟨a0, cap, zs, h1, h2, h3, h4, h5⟩ := open_ns (y := 8) Tryz.underlying49 Tryz.underlying109 (by kernel_rfl) (by kernel_rfl) h hz
  obtain ⟨l, rfl, hl⟩ := nats_of wf_u64 h4
  rw [List.length_map] at h1 h2 h3
  refine ⟨a0, cap, l, h1, h2, ?_, hl, ?_⟩
  · have : reachBytes = 140737488351232 := rfl
    omega
  · unfold u64v; rw [List.map_map] at h5; exact h5
set_option maxRecDepth 100000 in
theorem open_bytes {r : Reach} {b0 : Nat} {v : Value} {d : DataW H} {p : List MemPlace} (hv : Value.okWide Tryz.prog W r b0 28 v) (h : DataW.Trod enc Tryz.prog W 0 (fun _ => true) true 28 v d p) (hz : ∀ n ∈ d.weights Tryz.prog 28, n ≤ reachBytes) :
    ∃ (a0 : Option Addr) (cap : Nat) (l : List Nat), v = .slice a0 l.length cap ∧ l.length ≤ cap ∧ l.length ≤ 140737488355328 ∧ Bytes l ∧ SlAt W a0 (u8v l) := by
  obtain ⟨a, len, cap, rfl⟩ := okWide_slice Tryz.underlying28 hv
  obtain ⟨fuel, hf⟩ := h
  exact open_u8 (x := (d, p)) (by simpa [Value.cells] using hf) hz
theorem rdCells : Tryz.prog.cellsOf 51 = 4 := by kernel_rfl
set_option maxRecDepth 100000 in
theorem open_rd {r : Reach} {b0 : Nat} {v : Value} {d : DataW H} {p : List MemPlace} (hv : Value.okWide Tryz.prog W r b0 51 v) (h : DataW.Trod enc Tryz.prog W 0 (fun _ => true) true 51 v d p)
    (hz : ∀ n ∈ d.weights Tryz.prog 51, n ≤ reachBytes) :
    ∃ (s : Int) (q t : Nat) (a0 : Option Addr) (cap : Nat) (l : List Nat), v = .agg #[.int .i64 s, .int .u32 (q : Int), .int .u32 (t : Int), .slice a0 l.length cap] ∧ q < 4294967296 ∧ t < 4294967296 ∧ l.length ≤ cap ∧ l.length * 8 ≤ 140737488355328 ∧ (∀ x ∈ l, x < 18446744073709551616) ∧ SlAt W a0 (u64v l) ∧ (-9223372036854775808 ≤ s ∧ s < 9223372036854775808) := by
  obtain ⟨v0, v1, v2, v3, y0, y1, y2, y3, n, rfl, rfl, rfl, h0, h1, h2, h3⟩ := Go.Joins.open_agg4 Tryz.underlying51 (by kernel_rfl) rdCells hv h
  obtain ⟨s, e0, x0, w0⟩ := DataW.trod_int Tryz.underlying3 h0
  obtain ⟨q, e1, x1, w1⟩ := DataW.trod_int Tryz.underlying48 h1
  obtain ⟨t, e2, x2, w2⟩ := DataW.trod_int Tryz.underlying48 h2
  obtain ⟨a0, cap, l, rfl, h4, h5, h6, h7⟩ := open_u64 h3 (fun n hn => hz n (by
    rw [DataW.weights, Tryz.underlying51]
    exact DataW.weights_mem_each (j := 3) rfl rfl n hn))
  simp at e0 e1 e2
  subst e0 e1 e2
  obtain ⟨q, rfl, hq⟩ := nat_of_u32 w1
  obtain ⟨t, rfl, ht⟩ := nat_of_u32 w2
  exact ⟨s, q, t, a0, cap, l, rfl, hq, ht, h4, h5, h6, h7, int_of_i64 w0⟩
theorem wt_of {ts : List TypeId} {ds : List (DataW H)} (h : (DataW.weightsEach Tryz.prog ts ds).all (· ≤ reachBytes) = true) {j : Nat} {t : TypeId} {d : DataW H} (ht : ts[j]? = some t) (hd : ds[j]? = some d) : ∀ n ∈ d.weights Tryz.prog t, n ≤ reachBytes :=
  fun n hn => of_decide_eq_true (List.all_eq_true.1 h n (DataW.weights_mem_each ht hd n hn))
end
end Go.Proofs.YtpmjlaiafgbjgaaGreatDoor.Base
end

section
namespace Go.Proofs.YtpmjlaiafgbjgaaGreatDoor.Base
open Go.ChangeShapes Go.WideShapes Go.ChangeAt Go.RowKit
section
variable {H : Type} {enc : TypeId × Value → H} {W : World}
set_option maxRecDepth 100000 in
theorem recCells : Tryz.prog.cellsOf 30 = 2 := by kernel_rfl
set_option maxRecDepth 100000 in
theorem open_rec {r : Reach} {b0 : Nat} {v : Value} {d : DataW H} {p : List MemPlace} (hv : Value.okWide Tryz.prog W r b0 30 v) (h : DataW.Trod enc Tryz.prog W 0 (fun _ => true) true 30 v d p)
    (hz : ∀ n ∈ d.weights Tryz.prog 30, n ≤ reachBytes) :
    ∃ (k : Int) (a0 : Option Addr) (cap : Nat) (l : List Nat), v = .agg #[.int .i64 k, .slice a0 l.length cap] ∧ l.length ≤ cap ∧ l.length ≤ 140737488355328 ∧ Bytes l ∧ SlAt W a0 (u8v l) := by
  obtain ⟨v0, v1, y0, y1, n, rfl, rfl, rfl, h0, h1⟩ := Go.Joins.open_agg2 Tryz.underlying30 (by kernel_rfl) recCells hv h
  obtain ⟨s, e0, x0, w0⟩ := DataW.trod_int Tryz.underlying3 h0
  obtain ⟨a0, cap, l, rfl, h4, h5, h6, h7⟩ := open_u8 h1 (fun n hn => hz n (by
    rw [DataW.weights, Tryz.underlying30]
    exact DataW.weights_mem_each (j := 1) rfl rfl n hn))
  simp at e0
  subst e0
  exact ⟨s, a0, cap, l, rfl, h4, h5, h6, h7⟩
end
end Go.Proofs.YtpmjlaiafgbjgaaGreatDoor.Base
end

section
namespace Go.Proofs.YtpmjlaiafgbjgaaGreatDoor.journalFresh
open Go.ChangeShapes Go.WideShapes Go.ChangeAt Go.RowKit
set_option maxRecDepth 100000 in
theorem contract (H : Type) (enc : TypeId × Value → H) (W : World) (base : Nat) (args : Array Value) (ds gs : List (DataW H)) (before : List MemPlace)
    (hval : ∀ (j : Nat) t v, Tryz.f4.params[j]? = some t → args[j]? = some v → Value.okWide Tryz.prog W .any base t v)
    (hW : DataW.Whole enc Tryz.prog Tryz.f4.params.toList Rows.journalFreshSpec.vars false W args.toList ds gs before)
    (hsz : (DataW.weightsEach Tryz.prog (Tryz.f4.params.toList ++ (OpenSpec.ofChange Rows.journalFreshSpec).bare.plain.varTypes Tryz.prog) (ds ++ gs)).all (· ≤ reachBytes) = true) (hL : laidMetH Tryz.prog Rows.journalFreshRow.laid W) :
    Calls Tryz.prog 4 args W fun e W' => ∃ v, e = .returned v ∧ Rows.journalFreshSpec.post enc Tryz.prog Tryz.f4 false true false false W args v W' := by
  have hW' := hW
  obtain ⟨p, q, hA0, hV, rfl, hfz, hnd⟩ := hW
  have hA : DataW.TrodAll enc Tryz.prog W 0 (fun _ => true) true Tryz.f4.params.toList args.toList ds p := hA0
  rw [Tryz.params4] at hA hval hsz
  obtain ⟨v0, vs0, d0, ds0, p0, q0, hargs, rfl, rfl, h0, r0⟩ := trodAll_cons hA
  obtain ⟨v1, vs1, d1, ds1, p1, q1, rfl, rfl, rfl, h1, r1⟩ := trodAll_cons r0
  obtain ⟨v2, vs2, d2, ds2, p2, q2, rfl, rfl, rfl, h2, r2⟩ := trodAll_cons r1
  obtain ⟨rfl, rfl, rfl⟩ := trodAll_nil r2
  obtain rfl : args = #[v0, v1, v2] := by cases args; simp_all
  obtain ⟨rfl, rfl⟩ := trodVars_none hV
  obtain ⟨A0, c0, l0, rfl, hc0, hn0, hb0, hm0⟩ := Base.open_bytes (hval 0 28 v0 rfl rfl) h0 (Base.wt_of hsz (j := 0) rfl rfl)
  obtain ⟨s1, q1', t1, A1, c1, l1, rfl, hq1, ht1, hc1, hn1, hb1, hm1, hs1⟩ := Base.open_rd (hval 1 51 v1 rfl rfl) h1 (Base.wt_of hsz (j := 1) rfl rfl)
  obtain ⟨k2, A2, c2, l2, rfl, hc2, hn2, hb2, hm2⟩ := Base.open_rec (hval 2 30 v2 rfl rfl) h2 (Base.wt_of hsz (j := 2) rfl rfl)
  clear hA0
  simp only [List.append_nil] at hW'
  have hlt : ∀ x, x ∈ p0 ∨ x ∈ p1 ∨ x ∈ p2 → x.block < W.heap.size := fun x hx => hW'.lt x (by simpa using hx)
  refine (jfresh_walk A0 c0 l0 hb0 hn0 hc0 s1 q1' t1 A1 c1 l1 hq1 ht1 hb1 hn1 k2 A2 c2 l2 hb2 hn2 hc2 W (Base.fmS hL) hm0 hm1 hm2).mono fun e W' ⟨he, bel⟩ => ?_
  subst he
  exact ⟨_, rfl, _, _, _, [], _, [], hW', trodAll_mk1 (shut_bool Tryz.underlying4 _), (trodAll_cons_mk (Below.trod Base.laidOut (by kernel_rfl) (of_decide_eq_true (by kernel_rfl)) h0 bel (fun x hx => hlt x (.inl hx))) (trodAll_cons_mk (Below.trod Base.laidOut (by kernel_rfl) (of_decide_eq_true (by kernel_rfl)) h1 bel (fun x hx => hlt x (.inr (.inl hx)))) (trodAll_cons_mk (Below.trod Base.laidOut (by kernel_rfl) (of_decide_eq_true (by kernel_rfl)) h2 bel (fun x hx => hlt x (.inr (.inr hx)))) trodAll_mk0))), rfl, Below.frame bel _, fun h => by cases h⟩
theorem laid_met (os : Os) : laidMet Tryz.prog Rows.journalFreshRow.laid ((Base.laidWorld os).forCall (fun _ _ => 0) ⟨#[], #[Value.slice none 0 0, Value.agg #[.int .i64 0, .int .u32 0, .int .u32 0, .slice none 0 0], Value.agg #[.int .i64 0, .slice none 0 0]], []⟩).memory :=
  laidMet_of_run' 8 (by kernel_rfl) (by kernel_rfl)
theorem reads (os : Os) {H : Type} (enc : TypeId × Value → H) : ∃ places, DataW.whole enc Tryz.prog ((Base.laidWorld os).forCall (fun _ _ => 0) ⟨#[], #[Value.slice none 0 0, Value.agg #[.int .i64 0, .int .u32 0, .int .u32 0, .slice none 0 0], Value.agg #[.int .i64 0, .slice none 0 0]], []⟩).memory Tryz.f4.params.toList Rows.journalFreshSpec.vars false (#[Value.slice none 0 0, Value.agg #[.int .i64 0, .int .u32 0, .int .u32 0, .slice none 0 0], Value.agg #[.int .i64 0, .slice none 0 0]] : Array Value).toList 8 = some ([.nil, .agg [.lit (.int .i64 0), .lit (.int .u32 0), .lit (.int .u32 0), .nil], .agg [.lit (.int .i64 0), .nil]], [], places) :=
  ⟨[], by kernel_rfl⟩
set_option maxRecDepth 100000 in
theorem lifted (os : Os) (started : os.Started) (H : Type) (enc : TypeId × Value → H) (F : Stop.Interp) :
    ReturnsInHanded {} Tryz.checked os 4 .any ((OpenSpec.ofChange Rows.journalFreshSpec).preRow enc Tryz.prog Tryz.f4 Rows.journalFreshRow.domain false Rows.journalFreshRow.laid) (((OpenSpec.ofChange Rows.journalFreshSpec).at F).post enc Tryz.prog Tryz.f4 false true false false) := by
  obtain ⟨places, hx⟩ := reads os enc
  refine returnsInHanded_of_row (C := Tryz.checked) (s := OpenSpec.ofChange Rows.journalFreshSpec) Base.own started (by kernel_rfl) Tryz.func4
    (witness_row_at (enc := enc) (C := Tryz.checked) false (Base.laidWorld os) #[Value.slice none 0 0, Value.agg #[.int .i64 0, .int .u32 0, .int .u32 0, .slice none 0 0], Value.agg #[.int .i64 0, .slice none 0 0]] rfl (by kernel_rfl) (by kernel_rfl) (by kernel_rfl)
      (OpenSpec.preRow_of_cond 8 hx (by kernel_rfl) (fun k hk => by cases hk) (by kernel_rfl) (laid_met os))) ?_
  intro W base args ds gs before hval hW _ _ hsz hL _ _
  exact contract H enc W base args ds gs before hval hW hsz hL
theorem said : Rows.JournalFreshSaid :=
  OpenClaim.holds_of_cond 4 Tryz.f4 rfl rfl rfl rfl rfl rfl rfl ⟨rfl, rfl, rfl, rfl, rfl⟩ rfl rfl rfl rfl rfl (by kernel_rfl) Tryz.func4 (by kernel_rfl)
    (of_decide_eq_true (by kernel_rfl)) (by unfold Func.isWrapper; first | (rw [if_pos (by decide +kernel)]; kernel_rfl) | (rw [if_neg (by decide +kernel)]; exact ⟨rfl, rfl⟩))
    (fun os started H enc _ F => by rw [OpenClaim.pre_eq_preRow]; exact lifted os started H enc F)
theorem plain (f : FuncId) (fn : Func) (hf : Tryz.pinned.checked.prog.funcNamed "binnacle/binnaclelaw22.JournalFresh" = some f) (hfn : Tryz.pinned.checked.prog.funcs[f]? = some fn) :
    false = Tryz.pinned.checked.prog.looks [] ∧ ∀ (j : Nat) t, fn.params[j]? = some t → Tryz.pinned.checked.prog.wantsStandIn t = false := by
  obtain rfl : f = 4 := Option.some.inj ((show Tryz.prog.funcNamed "binnacle/binnaclelaw22.JournalFresh" = some 4 by kernel_rfl).symm.trans hf) |>.symm
  obtain rfl : fn = Tryz.f4 := (Option.some.inj (Tryz.func4.symm.trans hfn)).symm
  refine ⟨by kernel_rfl, fun j t ht => ?_⟩
  rw [Tryz.params4] at ht
  have hm := Array.mem_of_getElem? ht
  have hm' : t = 28 ∨ t = 51 ∨ t = 30 := by simpa using hm
  rcases hm' with rfl | rfl | rfl
  · exact (show Tryz.prog.wantsStandIn 28 = false by kernel_rfl)
  · exact (show Tryz.prog.wantsStandIn 51 = false by kernel_rfl)
  · exact (show Tryz.prog.wantsStandIn 30 = false by kernel_rfl)
theorem card : Rows.JournalFreshCardSaid :=
  Claim7.holds_tied_plain_at .later [] _ _ _ _ said (fun _ h => by cases h) (by kernel_rfl) (fun _ h => by cases h) journalFresh_row_tie rfl ⟨rfl, rfl⟩ (by kernel_rfl) rfl plain (by kernel_rfl)
#print axioms card
end Go.Proofs.YtpmjlaiafgbjgaaGreatDoor.journalFresh
end
