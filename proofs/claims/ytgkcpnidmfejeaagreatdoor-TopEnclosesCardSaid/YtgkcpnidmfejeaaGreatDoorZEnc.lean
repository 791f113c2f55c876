/- The card of TopEncloses: whatever the input, the call returns true and the input reads as it did; the format holds what the program's text lays. -/
import Derived.Test.YtgkcpnidmfejeaaGreatDoorCards
import Derived.Test.YtgkcpnidmfejeaaGreatDoorTie
import Derived.Test.YtgkcpnidmfejeaaGreatDoorZEnc10
set_option linter.unusedVariables false
set_option linter.unusedSimpArgs false
set_option maxRecDepth 100000
set_option maxHeartbeats 4000000
section
namespace Go.Proofs.YtgkcpnidmfejeaaGreatDoor.Base
open Go.ChangeShapes Go.WideShapes Go.ChangeAt Go.RowKit
theorem own : ownKnob Tryz.prog.godebug = none := by kernel_rfl
theorem gTab : Tryz.prog.globalNamed "math/bits.deBruijn64tab" = some 2 := by kernel_rfl
theorem gTabType : (Tryz.prog.globals[2]?).map (·.type) = some 373 := by kernel_rfl
theorem cellsT : Tryz.prog.cellsOf 373 = 64 := by kernel_rfl
theorem cellsB : Tryz.prog.cellsOf 5 = 1 := by kernel_rfl
theorem tab {W : World} (h : laidMetH Tryz.prog [("math/bits.deBruijn64tab", Rows.laid_math_bits_deBruijn64tab)] W) : Tab W := fun j hj => by
 have e := (Lib.tabIs_of_head (zs := Lib.deBruijn64tab.map Int.ofNat) (rest := []) gTab gTabType Tryz.underlying373 Tryz.underlying5 cellsB cellsT h).cell gTab j (by simpa [Lib.deBruijn64tab] using hj)
 rw [e]
 congr 2
 have hl : j < Lib.deBruijn64tab.length := hj
 simp [List.getD, List.getElem?_map, List.getElem?_eq_getElem hl]
theorem nat_of_u64 {n : Int} (h : (Lit.int .u64 n).wf = true) : ∃ a : Nat, n = a ∧ a < 18446744073709551616 := by
 simp only [Lit.wf, Bool.and_eq_true, decide_eq_true_eq] at h
 have h1 : (0 : Int) ≤ n := h.1
 have h2 : n ≤ 18446744073709551615 := h.2
 exact ⟨n.toNat, by omega, by omega⟩
noncomputable def laidWorld (os : Os) : World :=
 { World.holding Tryz.prog os ⟨#[], #[], []⟩ with heap := (World.holding Tryz.prog os ⟨#[], #[], []⟩).heap.modify 2 fun
  | .cells _ t frozen => .cells #[.int .u8 0, .int .u8 1, .int .u8 56, .int .u8 2, .int .u8 57, .int .u8 49, .int .u8 28, .int .u8 3, .int .u8 61, .int .u8 58, .int .u8 42, .int .u8 50, .int .u8 38, .int .u8 29, .int .u8 17, .int .u8 4, .int .u8 62, .int .u8 47, .int .u8 59, .int .u8 36, .int .u8 45, .int .u8 43, .int .u8 51, .int .u8 22, .int .u8 53, .int .u8 39, .int .u8 33, .int .u8 30, .int .u8 24, .int .u8 18, .int .u8 12, .int .u8 5, .int .u8 63, .int .u8 55, .int .u8 48, .int .u8 27, .int .u8 60, .int .u8 41, .int .u8 37, .int .u8 16, .int .u8 46, .int .u8 35, .int .u8 44, .int .u8 21, .int .u8 52, .int .u8 32, .int .u8 23, .int .u8 11, .int .u8 54, .int .u8 26, .int .u8 40, .int .u8 15, .int .u8 34, .int .u8 20, .int .u8 31, .int .u8 10, .int .u8 25, .int .u8 14, .int .u8 19, .int .u8 9, .int .u8 13, .int .u8 8, .int .u8 7, .int .u8 6] t frozen
  | o => o }
end Go.Proofs.YtgkcpnidmfejeaaGreatDoor.Base
end
section
namespace Go.Proofs.YtgkcpnidmfejeaaGreatDoor.Base
open Go.ChangeShapes Go.WideShapes Go.ChangeAt Go.RowKit
theorem gTab32 : Tryz.prog.globalNamed "math/bits.deBruijn32tab" = some 1 := by kernel_rfl
theorem gTab32Type : (Tryz.prog.globals[1]?).map (·.type) = some 354 := by kernel_rfl
theorem cells32 : Tryz.prog.cellsOf 354 = 32 := by kernel_rfl
theorem laid_tail {P : Program} {x : String × DataW Unit} {r : List (String × DataW Unit)} {w : World} (h : laidMet P (x :: r) w) : laidMet P r w := by
 obtain ⟨ps, hv, hnd, hrows⟩ := h
 obtain ⟨n, d⟩ := x
 obtain ⟨g, t, cs, fuel, p, q, _, _, _, _, hq, rfl⟩ := hv
 exact ⟨q, hq, List.Nodup.sublist (List.sublist_append_right _ _) hnd, fun b off hm => hrows b off (List.mem_append_right _ hm)⟩
theorem tab2 {W : World} (h : laidMetH Tryz.prog [("math/bits.deBruijn32tab", Rows.laid_math_bits_deBruijn32tab), ("math/bits.deBruijn64tab", Rows.laid_math_bits_deBruijn64tab)] W) : Tab W ∧ Tab32 W := by
 refine ⟨tab (laid_tail h), fun j hj => ?_⟩
 have e := (Lib.tabIs_of_head (zs := Lib.deBruijn32tab.map Int.ofNat) gTab32 gTab32Type Tryz.underlying354 Tryz.underlying5 cellsB cells32 h).cell gTab32 j (by simpa [Lib.deBruijn32tab] using hj)
 rw [e]
 congr 2
 have hl : j < Lib.deBruijn32tab.length := hj
 simp [List.getD, List.getElem?_map, List.getElem?_eq_getElem hl]
noncomputable def laidWorld2 (os : Os) : World :=
 { laidWorld os with heap := (laidWorld os).heap.modify 1 fun
  | .cells _ t frozen => .cells #[.int .u8 0, .int .u8 1, .int .u8 28, .int .u8 2, .int .u8 29, .int .u8 14, .int .u8 24, .int .u8 3, .int .u8 30, .int .u8 22, .int .u8 20, .int .u8 15, .int .u8 25, .int .u8 17, .int .u8 4, .int .u8 8, .int .u8 31, .int .u8 27, .int .u8 13, .int .u8 23, .int .u8 21, .int .u8 19, .int .u8 16, .int .u8 7, .int .u8 26, .int .u8 12, .int .u8 18, .int .u8 6, .int .u8 11, .int .u8 5, .int .u8 10, .int .u8 9] t frozen
  | o => o }
end Go.Proofs.YtgkcpnidmfejeaaGreatDoor.Base
end
section
namespace Go.Proofs.YtgkcpnidmfejeaaGreatDoor.Base
open Go.ChangeShapes Go.WideShapes Go.ChangeAt Go.RowKit
theorem laidOut : laidOutB Tryz.prog = true := by kernel_rfl
section
variable {H : Type} {enc : TypeId × Value → H} {W : World}
theorem chosen {α : Type} [Inhabited α] {m : Nat} {p : Nat → α → Prop} (h : ∀ i, i < m → ∃ v, p i v) : ∃ V : Nat → α, ∀ i, i < m → p i (V i) := by
 classical
 refine ⟨fun i => if hi : i < m then (h i hi).choose else default, fun i hi => ?_⟩
 simp only [dif_pos hi]
 exact (h i hi).choose_spec
theorem opCells : Tryz.prog.cellsOf 27 = 5 := by kernel_rfl
theorem intCells : Tryz.prog.cellsOf 3 = 1 := by kernel_rfl
theorem u64Cells : Tryz.prog.cellsOf 25 = 1 := by kernel_rfl
theorem cells5 {w : World} {base : Nat} {a : Addr} {cs : List Value} (h : w.cells? base a 5 = some cs) : ∃ c0 c1 c2 c3 c4, cs = [c0, c1, c2, c3, c4] ∧ w.cell? (a.add 0) = some c0 ∧ w.cell? (a.add 1) = some c1 ∧ w.cell? (a.add 2) = some c2 ∧ w.cell? (a.add 3) = some c3 ∧ w.cell? (a.add 4) = some c4 := by
 obtain ⟨_, hl, hc⟩ := World.cells?_some h
 match cs, hl with
 | [c0, c1, c2, c3, c4], _ => exact ⟨c0, c1, c2, c3, c4, rfl, by simpa using hc 0 om, by simpa using hc 1 om, by simpa using hc 2 om, by simpa using hc 3 om, by simpa using hc 4 om⟩
theorem trod_struct5 {P : Program} {w : World} {base : Nat} {spare : Nat → Bool} {held : Bool} {t : TypeId} {f0 f1 f2 f3 f4 : Field} {fuel : Nat} {cs : List Value} {x : DataW H × List MemPlace} (ht : P.underlying t = some (.struct #[f0, f1, f2, f3, f4])) (h : DataW.trod enc P w base spare held fuel t cs = some x) :
 ∃ y0 y1 y2 y3 y4 n, x.1 = .agg [y0.1, y1.1, y2.1, y3.1, y4.1] ∧ DataW.trod enc P w base spare held n f0.type ((cs.drop f0.offset).take (P.cellsOf f0.type)) = some y0 ∧
  DataW.trod enc P w base spare held n f1.type ((cs.drop f1.offset).take (P.cellsOf f1.type)) = some y1 ∧ DataW.trod enc P w base spare held n f2.type ((cs.drop f2.offset).take (P.cellsOf f2.type)) = some y2 ∧
  DataW.trod enc P w base spare held n f3.type ((cs.drop f3.offset).take (P.cellsOf f3.type)) = some y3 ∧ DataW.trod enc P w base spare held n f4.type ((cs.drop f4.offset).take (P.cellsOf f4.type)) = some y4 := by
 obtain ⟨xs, n, _, rfl, hl, hlen, hf⟩ := DataW.trod_struct ht h
 match xs, hlen with
 | [y0, y1, y2, y3, y4], _ => exact ⟨y0, y1, y2, y3, y4, n, by simp, by simpa using hf 0 f0 rfl, by simpa using hf 1 f1 rfl, by simpa using hf 2 f2 rfl, by simpa using hf 3 f3 rfl, by simpa using hf 4 f4 rfl⟩
theorem open_ops {r : Reach} {b0 : Nat} {v : Value} {d : DataW H} {p : List MemPlace} (hv : Value.okWide Tryz.prog W r b0 22 v) (h : DataW.Trod enc Tryz.prog W 0 (fun _ => true) true 22 v d p) :
 ∃ (a0 : Option Addr) (cap : Nat) (ls : List OpT), v = .slice a0 ls.length cap ∧ OpsAt W a0 ls := by
 obtain ⟨a, len, cap, rfl⟩ := okWide_slice Tryz.underlying22 hv
 obtain ⟨fuel, hf⟩ := h
 rcases Go.Deep.open_slice Tryz.underlying22 (by simpa [Value.cells] using hf) with ⟨hcs, hx⟩ | ⟨ad, ln, cp, m, n, D, Pl, hcs, _, hl, _, hm, hx, hcell⟩
 ·simp at hcs
  obtain ⟨rfl, rfl, rfl⟩ := hcs
  exact ⟨none, 0, [], rfl, fun i s hi => by simp at hi⟩
 ·simp at hcs
  obtain ⟨rfl, rfl, rfl⟩ := hcs
  simp only [if_true] at hm
  have hm' := hm.symm
  subst hm'
  rw [opCells] at hcell
  have : Inhabited OpT := ⟨⟨0, 0, 0, 0, 0⟩⟩
  obtain ⟨Ls, hL⟩ := chosen (α := OpT) (m := len) (p := fun i s => W.cell? ((ad.add (i * 5)).add 0) = some (.int .i64 s.1) ∧ W.cell? ((ad.add (i * 5)).add 1) = some (.int .i64 s.2.1) ∧ W.cell? ((ad.add (i * 5)).add 2) = some (.int .i64 s.2.2.1) ∧ W.cell? ((ad.add (i * 5)).add 3) = some (.int .u64 (s.2.2.2.1 : Int)) ∧ W.cell? ((ad.add (i * 5)).add 4) = some (.int .u64 (s.2.2.2.2 : Int)) ∧ s.2.2.2.1 < 18446744073709551616 ∧ s.2.2.2.2 < 18446744073709551616) (fun i hi => by
   obtain ⟨cs, hcs, ht⟩ := hcell i om
   obtain ⟨c0, c1, c2, c3, c4, rfl, k0, k1, k2, k3, k4⟩ := cells5 hcs
   obtain ⟨y0, y1, y2, y3, y4, m, _, h0, h1, h2, h3, h4⟩ := trod_struct5 Tryz.underlying27 ht
   have h0' : DataW.trod enc Tryz.prog W 0 (fun _ => true) true m 3 [c0] = some y0 := by simpa [intCells] using h0
   have h1' : DataW.trod enc Tryz.prog W 0 (fun _ => true) true m 3 [c1] = some y1 := by simpa [intCells] using h1
   have h2' : DataW.trod enc Tryz.prog W 0 (fun _ => true) true m 3 [c2] = some y2 := by simpa [intCells] using h2
   have h3' : DataW.trod enc Tryz.prog W 0 (fun _ => true) true m 25 [c3] = some y3 := by simpa [u64Cells] using h3
   have h4' : DataW.trod enc Tryz.prog W 0 (fun _ => true) true m 25 [c4] = some y4 := by simpa [u64Cells] using h4
   obtain ⟨s0, e0, _, _⟩ := DataW.trod_int Tryz.underlying3 h0'
   obtain ⟨s1, e1, _, _⟩ := DataW.trod_int Tryz.underlying3 h1'
   obtain ⟨s2, e2, _, _⟩ := DataW.trod_int Tryz.underlying3 h2'
   obtain ⟨s3, e3, _, w3⟩ := DataW.trod_int Tryz.underlying25 h3'
   obtain ⟨s4, e4, _, w4⟩ := DataW.trod_int Tryz.underlying25 h4'
   obtain ⟨x, rfl, hx⟩ := nat_of_u64 w3
   obtain ⟨y, rfl, hy⟩ := nat_of_u64 w4
   simp at e0 e1 e2 e3 e4
   subst e0 e1 e2 e3 e4
   exact ⟨⟨s0, s1, s2, x, y⟩, k0, k1, k2, k3, k4, hx, hy⟩)
  refine ⟨some ad, cap, (List.range len).map Ls, by rw [List.length_map, List.length_range], fun i l hi => ?_⟩
  rw [List.getElem?_map, Option.map_eq_some_iff] at hi
  obtain ⟨j, hj, rfl⟩ := hi
  obtain ⟨hj1, hj2⟩ := List.getElem?_eq_some_iff.1 hj
  rw [List.length_range] at hj1
  rw [List.getElem_range] at hj2
  subst hj2
  obtain ⟨k0, k1, k2, k3, k4, h5, h6⟩ := hL i hj1
  exact ⟨ad, rfl, k0, k1, k2, k3, k4, h5, h6⟩
end
end Go.Proofs.YtgkcpnidmfejeaaGreatDoor.Base
end
section
namespace Go.Proofs.YtgkcpnidmfejeaaGreatDoor.topEncloses
open Go.ChangeShapes Go.WideShapes Go.ChangeAt Go.RowKit
theorem contract (H : Type) (enc : TypeId × Value → H) (W : World) (base : Nat) (args : Array Value) (ds gs : List (DataW H)) (before : List MemPlace)
 (hval : ∀ (j : Nat) t v, Tryz.f3.params[j]? = some t → args[j]? = some v → Value.okWide Tryz.prog W .any base t v)
 (hW : DataW.Whole enc Tryz.prog Tryz.f3.params.toList Rows.topEnclosesSpec.vars false W args.toList ds gs before)
 (hsz : (DataW.weightsEach Tryz.prog (Tryz.f3.params.toList ++ (OpenSpec.ofChange Rows.topEnclosesSpec).bare.plain.varTypes Tryz.prog) (ds ++ gs)).all (· ≤ reachBytes) = true) (hL : laidMetH Tryz.prog Rows.topEnclosesRow.laid W) :
 Calls Tryz.prog 3 args W fun e W' => ∃ v, e = .returned v ∧ Rows.topEnclosesSpec.post enc Tryz.prog Tryz.f3 false true false false W args v W' := by
 have hW' := hW
 obtain ⟨p, q, hA0, hV, rfl, hfz, hnd⟩ := hW
 have hA : DataW.TrodAll enc Tryz.prog W 0 (fun _ => true) true Tryz.f3.params.toList args.toList ds p := hA0
 rw [Tryz.params3] at hA hval hsz
 obtain ⟨v0, vs0, d0, ds0, p0, q0, hargs, rfl, rfl, h0, r0⟩ := trodAll_cons hA
 obtain ⟨rfl, rfl, rfl⟩ := trodAll_nil r0
 obtain rfl : args = #[v0] := by cases args; simp_all
 obtain ⟨rfl, rfl⟩ := trodVars_none hV
 obtain ⟨A0, c0, l0, rfl, hm0⟩ := Base.open_ops (hval 0 22 v0 rfl rfl) h0
 clear hA0
 simp only [List.append_nil] at hW'
 have hlt : ∀ x, x ∈ p0 → x.block < W.heap.size := fun x hx => hW'.lt x (by simpa using hx)
 refine (encloses_law A0 c0 l0 W (Base.tab2 hL) hm0).mono fun e W' ⟨he, bel⟩ => ?_
 subst he
 exact ⟨_, rfl, _, _, _, [], _, [], hW', trodAll_mk1 (shut_bool Tryz.underlying4 _), (trodAll_cons_mk (Below.trod Base.laidOut kr (of_decide_eq_true kr) h0 bel (fun x hx => hlt x hx)) trodAll_mk0), rfl, Below.frame bel _, fun h => by cases h⟩
theorem laid_met (os : Os) : laidMet Tryz.prog Rows.topEnclosesRow.laid ((Base.laidWorld2 os).forCall (fun _ _ => 0) ⟨#[], #[Value.slice none 0 0], []⟩).memory :=
 laidMet_of_run' 8 kr kr
theorem reads (os : Os) {H : Type} (enc : TypeId × Value → H) : ∃ places, DataW.whole enc Tryz.prog ((Base.laidWorld2 os).forCall (fun _ _ => 0) ⟨#[], #[Value.slice none 0 0], []⟩).memory Tryz.f3.params.toList Rows.topEnclosesSpec.vars false (#[Value.slice none 0 0] : Array Value).toList 8 = some ([.nil], [], places) :=
 ⟨[], by kernel_rfl⟩
theorem lifted (os : Os) (started : os.Started) (H : Type) (enc : TypeId × Value → H) (F : Stop.Interp) :
 ReturnsInHanded {} Tryz.checked os 3 .any ((OpenSpec.ofChange Rows.topEnclosesSpec).preRow enc Tryz.prog Tryz.f3 Rows.topEnclosesRow.domain false Rows.topEnclosesRow.laid) (((OpenSpec.ofChange Rows.topEnclosesSpec).at F).post enc Tryz.prog Tryz.f3 false true false false) := by
 obtain ⟨places, hx⟩ := reads os enc
 refine returnsInHanded_of_row (C := Tryz.checked) (s := OpenSpec.ofChange Rows.topEnclosesSpec) Base.own started kr Tryz.func3
  (witness_row_at (enc := enc) (C := Tryz.checked) false (Base.laidWorld2 os) #[Value.slice none 0 0] rfl kr kr kr
   (OpenSpec.preRow_of_cond 8 hx kr (fun k hk => by cases hk) kr (laid_met os))) ?_
 intro W base args ds gs before hval hW _ _ hsz hL _ _
 exact contract H enc W base args ds gs before hval hW hsz hL
theorem closed : joinedFacts Tryz.pinned.checked.prog 3 Tryz.f3 (OpenSpec.ofChange Rows.topEnclosesSpec).bare Rows.topEnclosesRow = true := by kernel_rfl
theorem inst : Tryz.f3.isInstance Tryz.pinned.checked.prog Rows.topEnclosesRow.origin Rows.topEnclosesRow.targs := of_decide_eq_true kr
theorem wrap : Tryz.f3.isWrapper Tryz.pinned.checked.prog Rows.topEnclosesRow.wrapper Rows.topEnclosesRow.mainSum := by unfold Func.isWrapper; first | (rw [if_pos (by decide +kernel)]; kernel_rfl) | (rw [if_neg (by decide +kernel)]; exact ⟨rfl, rfl⟩)
theorem named : Tryz.pinned.checked.prog.funcNamed Rows.topEnclosesRow.func = some 3 := by kernel_rfl
theorem said : Rows.TopEnclosesSaid :=
 OpenClaim.holds_of_cond 3 Tryz.f3 rfl rfl rfl rfl rfl rfl rfl ⟨rfl, rfl, rfl, rfl, rfl⟩ rfl rfl rfl rfl rfl named Tryz.func3 closed inst wrap
  (fun os started H enc _ F => by rw [OpenClaim.pre_eq_preRow]; exact lifted os started H enc F)
theorem plain (f : FuncId) (fn : Func) (hf : Tryz.pinned.checked.prog.funcNamed "binnacle/binnacletop.TopEncloses" = some f) (hfn : Tryz.pinned.checked.prog.funcs[f]? = some fn) :
 true = Tryz.pinned.checked.prog.looks [] ∧ ∀ (j : Nat) t, fn.params[j]? = some t → Tryz.pinned.checked.prog.wantsStandIn t = false := by
 obtain rfl : f = 3 := Option.some.inj ((show Tryz.prog.funcNamed "binnacle/binnacletop.TopEncloses" = some 3 by kernel_rfl).symm.trans hf) |>.symm
 obtain rfl : fn = Tryz.f3 := (Option.some.inj (Tryz.func3.symm.trans hfn)).symm
 refine ⟨by kernel_rfl, fun j t ht => ?_⟩
 rw [Tryz.params3] at ht
 have hm := Array.mem_of_getElem? ht
 have hm' : t = 22 := by simpa using hm
 subst hm'
 exact (show Tryz.prog.wantsStandIn 22 = false by kernel_rfl)
theorem card : Rows.TopEnclosesCardSaid :=
 Claim7.holds_tied_plain_at .later [] _ _ _ _ said (fun _ h => by cases h) kr (fun _ h => by cases h) topEncloses_row_tie rfl ⟨rfl, rfl⟩ kr rfl plain kr
#print axioms card
end Go.Proofs.YtgkcpnidmfejeaaGreatDoor.topEncloses
end
