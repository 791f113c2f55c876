/- What the laws' walks rest on, part 5: contracts of functions and plain facts (Jk1, Jou, Set, Jo1, Jo2, Jo3, Rec, Jo4). -/
import Derived.Laws.BytesArg
import Derived.Laws.Strings
import Derived.Lib.SlBytesConst
import Derived.Test.YtpmjlaiafgbjgaaDoorK3
import Derived.Test.YtpmjlaiafgbjgaaDoorK4
set_option linter.unusedVariables false
set_option linter.unusedSimpArgs false
section
namespace Go.Proofs.YtpmjlaiafgbjgaaDoor
open Go.RowKit

/-- bytes as a string -/
def strB (l : List Nat) : ByteArray := strOfNums (l.map fun (x : Nat) => (x : Int))
theorem run_str (A : Option Addr) (c : Nat) (l : List Nat) (w : World) (hr : SlAt w A (u8v l)) : (convert 22 9 (.slice A l.length c)).run Tryd.prog w = .ok (.string (strB l)) w := by
  rw [run_convert_bytes_string (P := Tryd.prog) w 22 9 5 A l.length c (by kernel_rfl) (by kernel_rfl) (by kernel_rfl)]
  have e : (l.map fun (x : Nat) => (x : Int)).map (Value.int .u8) = u8v l := by unfold u8v; rw [List.map_map]; rfl
  have fin : (Builtin.append_ #[] 0 #[]) = (Builtin.append_ #[] 0 #[]) := rfl
  cases A with
  | none =>
    have h0 : l = [] := by
      cases l with
      | nil => rfl
      | cons x l => obtain ⟨ad, h, _⟩ := hr (by simp [u8v]); cases h
    subst h0
    simp [Conv.bytesToString]
    rfl
  | some ad =>
    have hl : (loadCells ad l.length).run Tryd.prog w = .ok ((l.map fun (x : Nat) => (x : Int)).map (Value.int .u8)).toArray w := by
      have := run_loadCells_list (P := Tryd.prog) w ad (u8v l) (fun j v hj => by
        obtain ⟨ad', e', _, hc⟩ := hr (by cases hu : u8v l with | nil => rw [hu] at hj; simp at hj | cons _ _ => simp)
        obtain rfl := Option.some.inj e'
        exact hc j v hj)
      rw [u8v_len] at this
      rw [e]; exact this
    rw [run_bytesToString w _ l.length c _ hl, foldl_push_bytes]
    simp [strB, strOfNums, ByteArray.empty, ByteArray.emptyWithCapacity]
    rfl
theorem strB_inj {l m : List Nat} (hl : Bytes l) (hm : Bytes m) (h : (strB l).toList = (strB m).toList) : l = m := by
  have h1 : (strB l).data.toList = (strB m).data.toList := by rw [ByteArray.toList_eq, ByteArray.toList_eq] at h; exact h
  unfold strB at h1
  rw [strOfNums_data, strOfNums_data, List.map_map, List.map_map] at h1
  clear h
  induction l generalizing m with
  | nil => cases m with
    | nil => rfl
    | cons y m => simp at h1
  | cons x l ih => cases m with
    | nil => simp at h1
    | cons y m =>
      simp only [List.map_cons, List.cons.injEq, Function.comp] at h1
      have hx := hl x (by simp)
      have hy := hm y (by simp)
      have e : x = y := by
        have := congrArg UInt8.toNat h1.1
        simp at this
        omega
      rw [e, ih (fun z hz => hl z (by simp [hz])) (fun z hz => hm z (by simp [hz])) h1.2]
def sameB (s q t s' q' t' : Int) (l m : List Nat) : Bool := (s == s') && (q == q') && (t == t') && decide (l.map canonD = m.map canonD)
set_option maxRecDepth 100000 in
set_option maxHeartbeats 600000 in
theorem Rsame_any (s q t s' q' t' : Int) (A B : Option Addr) (c d : Nat) (l m : List Nat) (hl : l.length ≤ 1152921504606846976) (hm : m.length ≤ 1152921504606846976) (w : World) (h1 : SlAt w A (f64v l)) (h2 : SlAt w B (f64v m)) : Calls Tryd.prog 59 #[.agg #[.int .i64 s, .int .u32 q, .int .u32 t, .slice A l.length c], .agg #[.int .i64 s', .int .u32 q', .int .u32 t', .slice B m.length d]] w fun e w' => e = .returned (.bool (sameB s q t s' q' t' l m)) ∧ Within w w' := by
  have SL : Hid (∀ wx, Within w wx → Calls Tryd.prog 80 #[.slice A l.length c, .slice B m.length d] wx fun e w' => e = .returned (.bool (decide (l.map canonD = m.map canonD))) ∧ Within wx w') := Lib.hid fun wx hx => Rsamelist_any A B c d l m hl hm wx (h1.of hx) (h2.of hx)
  clear h1 h2 hl hm
  obtain ⟨x, hx⟩ : ∃ x, x = decide (l.map canonD = m.map canonD) := ⟨_, rfl⟩
  rw [← hx] at SL
  unfold sameB
  rw [← hx]
  clear hx
  generalize l.length = n1 at SL ⊢
  generalize m.length = n2 at SL ⊢
  cases e1 : (s == s') <;> cases e2 : (q == q') <;> cases e3 : (t == t')
  all_goals
    go_enter Tryd.func59, Tryd.ntmps59
    go_wp2_with fail
    first
    | (refine (SL.out _ (by repeat (first | with_reducible exact Within.refl _ | with_reducible assumption | with_reducible refine Within.alloc ?_ _ | with_reducible refine Within.drew ?_ | with_reducible refine Within.drewN ?_ _ | with_reducible refine Within.setCell ?_ (by first | (simp; done) | (simp; omega)) _ | with_reducible refine Within.trans ?_ (by assumption)))).mono ?_; rintro e5 w5 ⟨rfl, h5⟩; go_wp2; go_ret; exact ⟨rfl, Within.trans (Within.alloc (Within.alloc (Within.refl _) _) _) h5⟩)
    | (go_ret; exact ⟨rfl, Within.alloc (Within.alloc (Within.refl _) _) _⟩)
/-- a block just made reads as it was made -/
theorem SlAt.made (w : World) (xs : List Value) (E : TypeId) : SlAt (w.alloc (.cells xs.toArray E)) (some ⟨w.heap.size, 0, none⟩) xs := fun _ => by
  refine ⟨_, rfl, by simp, fun j v hv => ?_⟩
  have e : (⟨w.heap.size, 0, none⟩ : Addr).add j = ⟨w.heap.size, j, none⟩ := by
    unfold Addr.add; split
    · rename_i h; rw [h]
    · rw [Nat.zero_add]
  rw [e, World.cell?_alloc_at _ _ _ _ rfl]
  simpa using hv
theorem SlAt.made_mark (w : World) (xs : List Value) (E : TypeId) (fr : Nat × Nat) : SlAt (w.alloc (.cells xs.toArray E fr)) (some ⟨w.heap.size, 0, none⟩) xs := fun _ => by
  refine ⟨_, rfl, by simp, fun j v hv => ?_⟩
  have e : (⟨w.heap.size, 0, none⟩ : Addr).add j = ⟨w.heap.size, j, none⟩ := by
    unfold Addr.add; split
    · rename_i h; rw [h]
    · rw [Nat.zero_add]
  rw [e, World.cell?_alloc_mark]
  simpa using hv
theorem But.outs {bk : Nat} {a b c : World} (h : But bk b c) (k : Within a b) (hb : a.heap.size ≤ bk) : Within a c := ((But.in_ k).trans h).out hb
theorem gb_lt {w : World} (h : FmS w) : 1 < w.heap.size := World.block_lt_of_cell? _ _ h.1
theorem pack_is {s : Int} {q t : Nat} {l : List Nat} (hq : q < 4294967296) (ht : t < 4294967296) (hw : Words64 l) (h : checkV pf s l = 0) : ∃ n : Nat, s = n ∧ packL s q t l = packV pf ⟨n, q, t, l⟩ ∧ Rd.Ok pf ⟨n, q, t, l⟩ := by
  obtain ⟨h1, h2, h3, h4⟩ := check_parts h
  refine ⟨s.toNat, by omega, ?_, ⟨by show s.toNat < 64; omega, hq, ht, h3, hw, h4⟩⟩
  unfold packL; rw [if_pos h]
theorem frame_unpack {r : Rd} (h : r.Ok pf) : unpackE pf (packV pf r) = 0 := unpack_pack pf_ok h
theorem frame_rd {r : Rd} (h : r.Ok pf) : rdOf (packV pf r) = r := by unfold rdOf; rw [if_pos (frame_unpack h)]; exact readB_packV pf_ok h
theorem frame_len {r : Rd} (h : r.Ok pf) : 16 ≤ (packV pf r).length ∧ (packV pf r).length ≤ 64 := by
  have h1 := h.len
  rw [packV_len]
  unfold stp
  split <;> omega
/-- a reading with as many values as may be: Pack, of numbers that may be -/
theorem Pack_fit (n q t : Nat) (A : Option Addr) (c : Nat) (l : List Nat) (h : Rd.Ok pf ⟨n, q, t, l⟩) (w : World) (hT : FmS w) (hr : SlAt w A (f64v l)) :
    Calls Tryd.prog 51 #[.agg #[.int .i64 (n : Int), .int .u32 (q : Int), .int .u32 (t : Int), .slice A l.length c]] w fun e w' => ∃ v, e = .returned (.tuple #[v, .int .i64 0]) ∧ OwnB w' w.heap.size v (packV pf ⟨n, q, t, l⟩) ∧ Within w w' := by
  have hc : checkV pf (n : Int) l = 0 := by
    have h1 : n < 64 := h.sensor
    have h2 : l.length ≤ 6 := h.len
    have h3 : l.all pf.fin = true := h.fin
    unfold checkV
    rw [if_neg (by omega), if_pos h3]
  have hp := Pack_any (n : Int) q t A c l h.seq h.stamp h.lt (by have := h.len; exact Nat.le_trans this (by decide)) w hT hr
  rw [hc] at hp
  unfold packL at hp
  rw [if_pos hc] at hp
  exact hp
/-- what is Unpack of a frame -/
theorem Unpack_frame (r : Rd) (h : r.Ok pf) (A : Option Addr) (c : Nat) (hc : (packV pf r).length ≤ c) (w : World) (hT : FmS w) (hr : SlAt w A (u8v (packV pf r))) :
    Calls Tryd.prog 49 #[.slice A (packV pf r).length c] w fun e w' => ∃ v, e = .returned (.tuple #[.agg #[.int .i64 (r.sensor : Int), .int .u32 (r.seq : Int), .int .u32 (r.stamp : Int), v], .int .i64 0]) ∧ OwnF w' w.heap.size v r.vals ∧ Within w w' := by
  have hp := Unpack_any A c (packV pf r) (packV_bytes h) (Nat.le_trans (frame_len h).2 (by decide)) hc w hT hr
  rw [frame_unpack h, frame_rd h] at hp
  exact hp
theorem Rsame_self (s q t : Int) (A B : Option Addr) (c d : Nat) (l : List Nat) (hl : l.length ≤ 1152921504606846976) (w : World) (h1 : SlAt w A (f64v l)) (h2 : SlAt w B (f64v l)) : Calls Tryd.prog 59 #[.agg #[.int .i64 s, .int .u32 q, .int .u32 t, .slice A l.length c], .agg #[.int .i64 s, .int .u32 q, .int .u32 t, .slice B l.length d]] w fun e w' => e = .returned (.bool true) ∧ Within w w' := by
  have h := Rsame_any s q t s q t A B c d l l hl hl w h1 h2
  have e : sameB s q t s q t l l = true := by unfold sameB; simp
  rw [e] at h; exact h
/-- block g holds these bytes from its beginning, and may be written -/
def RowB (w : World) (g : Nat) (l : List Nat) : Prop := (∀ i, i < l.length → w.cell? ⟨g, i, none⟩ = some (.int .u8 ((l.getD i 0 : Nat) : Int))) ∧ ∀ o, w.frozen? ⟨g, o, none⟩ = false
theorem add_at (g k : Nat) : (⟨g, 0, none⟩ : Addr).add k = ⟨g, k, none⟩ := by
  unfold Addr.add; split
  · rename_i h; rw [h]
  · rw [Nat.zero_add]
theorem OwnB.row {w : World} {base : Nat} {v : Value} {l : List Nat} (h : OwnB w base v l) (hn : 0 < l.length) : ∃ g c, v = .slice (some ⟨g, 0, none⟩) l.length c ∧ l.length ≤ c ∧ base ≤ g ∧ g < w.heap.size ∧ RowB w g l := by
  rcases h.2 with ⟨_, h0⟩ | ⟨g, cap, cur, hv, hg, hb, hc, _, _, _⟩
  · omega
  · obtain ⟨hlt, _⟩ := Array.getElem?_eq_some_iff.1 hb
    refine ⟨g, cap, hv, hc, hg, hlt, fun i hi => ?_, fun o => by simp [World.frozen?, hb]⟩
    have := World.ownsRow.cells (g := g) h (by rw [hv]; rfl) i (.int .u8 ((l.getD i 0 : Nat) : Int)) (by
      unfold u8v; rw [List.getElem?_map, List.getElem?_eq_getElem hi, Option.map_some]; simp [List.getD, List.getElem?_eq_getElem hi])
    rwa [add_at] at this
theorem RowB.at {w : World} {g : Nat} {l : List Nat} (h : RowB w g l) (hg : g < w.heap.size) : SlAt w (some ⟨g, 0, none⟩) (u8v l) := fun _ => by
  refine ⟨_, rfl, hg, fun j u hu => ?_⟩
  unfold u8v at hu
  rw [List.getElem?_map, Option.map_eq_some_iff] at hu
  obtain ⟨x, hx, rfl⟩ := hu
  obtain ⟨hj, hx⟩ := List.getElem?_eq_some_iff.1 hx
  rw [add_at, h.1 j hj]
  simp [List.getD, List.getElem?_eq_getElem hj, hx]
theorem getD_set_same (l : List Nat) (i x : Nat) (h : i < l.length) : (l.set i x).getD i 0 = x := by simp [List.getD, h]
theorem getD_set_else (l : List Nat) (i j x : Nat) (h : i ≠ j) : (l.set i x).getD j 0 = l.getD j 0 := by simp [List.getD, List.getElem?_set_ne h]
theorem RowB.set {w : World} {g : Nat} {l : List Nat} (h : RowB w g l) (i x : Nat) (hi : i < l.length) : RowB (w.setCell ⟨g, i, none⟩ (.int .u8 (x : Int))) g (l.set i x) := by
  refine ⟨fun j hj => ?_, fun o => by simpa using h.2 o⟩
  rw [List.length_set] at hj
  by_cases e : i = j
  · subst e
    rw [getD_set_same _ _ _ hi, World.cell?_setCell_same _ _ _ (h.1 i hi)]
  · rw [getD_set_else _ _ _ _ e, World.cell?_setCell_other _ _ _ _ (by intro k; injection k with _ k _; exact e k)]
    exact h.1 j hj
theorem RowB.of {w w' : World} {g : Nat} {l : List Nat} (h : RowB w g l) (k : Within w w') (hg : g < w.heap.size) : RowB w' g l :=
  ⟨fun i hi => (k.cells g i hg).trans (h.1 i hi), fun o => (k.frozens g o hg).trans (h.2 o)⟩
/-- a number taken round a length: in Go's way, made not negative -/
theorem round_at (c : Int) (M : Nat) (h0 : 0 < M) (h1 : M ≤ 1048576) : ∃ k : Nat, k < M ∧ (c.tmod (M : Int) + (M : Int)).tmod (M : Int) = (k : Int) ∧ -(M : Int) < c.tmod (M : Int) ∧ c.tmod (M : Int) < (M : Int) := by
  have hl := Int.tmod_lt_of_pos c (b := (M : Int)) (by omega)
  have hg : -(M : Int) < c.tmod (M : Int) := by
    have := Int.lt_tmod_of_pos c (b := (M : Int)) (by omega)
    exact this
  obtain ⟨x, hx⟩ : ∃ x, x = c.tmod (M : Int) := ⟨_, rfl⟩
  rw [← hx] at hl hg ⊢
  have h2 := Int.tmod_eq_emod_of_nonneg (a := x + M) (b := (M : Int)) (by omega)
  have h3 := Int.emod_nonneg (x + M) (b := (M : Int)) (by omega)
  have h4 := Int.emod_lt_of_pos (x + M) (b := (M : Int)) (by omega)
  exact ⟨((x + M).tmod M).toNat, by omega, by omega, hg, hl⟩
/-- at A lie these readings, to be read -/
def RdsAt (w : World) (A : Option Addr) (rs : List Rd) : Prop := ∀ (i : Nat) r, rs[i]? = some r → ∃ g Av cv, A = some ⟨g, 0, none⟩ ∧ g < w.heap.size ∧ w.cell? ⟨g, 4 * i, none⟩ = some (.int .i64 (r.sensor : Int)) ∧ w.cell? ⟨g, 4 * i + 1, none⟩ = some (.int .u32 (r.seq : Int)) ∧ w.cell? ⟨g, 4 * i + 2, none⟩ = some (.int .u32 (r.stamp : Int)) ∧ w.cell? ⟨g, 4 * i + 3, none⟩ = some (.slice Av r.vals.length cv) ∧ SlAt w Av (f64v r.vals)
theorem RdsAt.of {w w' : World} {A : Option Addr} {rs : List Rd} (h : RdsAt w A rs) (k : Within w w') : RdsAt w' A rs := fun i r hi => by
  obtain ⟨g, Av, cv, h1, h2, h3, h4, h5, h6, h7⟩ := h i r hi
  have key : ∀ j, w'.cell? ⟨g, j, none⟩ = w.cell? ⟨g, j, none⟩ := fun j => k.cells _ _ h2
  exact ⟨g, Av, cv, h1, Nat.lt_of_lt_of_le h2 k.size, (key _).trans h3, (key _).trans h4, (key _).trans h5, (key _).trans h6, h7.of k⟩
theorem cellsR_get : ∀ (ps : List (Rd × Value)) (i : Nat) (p : Rd × Value), ps[i]? = some p → ∀ j u, (rdC p.1 p.2)[j]? = some u → (cellsR ps)[4 * i + j]? = some u
  | [], i, p, h, _, _, _ => by simp at h
  | q :: ps, 0, p, h, j, u, hu => by
    simp at h; subst h
    have hj : j < 4 := by
      obtain ⟨hj, _⟩ := List.getElem?_eq_some_iff.1 hu
      exact hj
    rw [cellsR, List.flatMap_cons, List.getElem?_append_left (by show _ < 4; omega), Nat.mul_zero, Nat.zero_add]
    exact hu
  | q :: ps, i + 1, p, h, j, u, hu => by
    simp at h
    rw [cellsR, List.flatMap_cons, List.getElem?_append_right (by show 4 ≤ _; omega), show 4 * (i + 1) + j - (rdC q.1 q.2).length = 4 * i + j by show 4 * (i + 1) + j - 4 = _; omega]
    exact cellsR_get ps i p h j u hu
theorem RdsO.at {w : World} {base : Nat} {v : Value} {rs : List Rd} (h : RdsO w base v rs) : ∃ A c, v = .slice A rs.length c ∧ rs.length ≤ c ∧ RdsAt w A rs ∧ ∀ ad, A = some ad → base ≤ ad.block := by
  obtain ⟨ps, rfl, hrow, hps⟩ := h
  rcases hrow.2 with ⟨rfl, h0⟩ | ⟨g, cap, cur, rfl, hg, hb, hc, _, _, _⟩
  · have : ps = [] := List.eq_nil_of_length_eq_zero h0
    subst this
    exact ⟨none, 0, rfl, Nat.le_refl _, fun i r hi => by simp at hi, fun ad e => by cases e⟩
  · obtain ⟨hlt, _⟩ := Array.getElem?_eq_some_iff.1 hb
    refine ⟨some ⟨g, 0, none⟩, cap, by rw [List.length_map], by rw [List.length_map]; exact hc, fun i r hi => ?_, fun ad e => by injection e with e; subst e; exact hg⟩
    rw [List.getElem?_map, Option.map_eq_some_iff] at hi
    obtain ⟨p, hp, rfl⟩ := hi
    obtain ⟨Av, cv, hv, _, hs, _⟩ := (hps p (List.mem_of_getElem? hp)).1.form
    have key : ∀ j u, (rdC p.1 p.2)[j]? = some u → w.cell? ⟨g, 4 * i + j, none⟩ = some u := fun j u hu => by rw [← add_at]; exact World.ownsRow.cells (g := g) hrow rfl _ _ (cellsR_get ps i p hp j u hu)
    refine ⟨g, Av, cv, rfl, hlt, key 0 _ rfl, key 1 _ rfl, key 2 _ rfl, ?_, hs⟩
    rw [key 3 _ rfl, hv]
/-- what was there before a block was made is there still, though that block is written into -/
theorem Within.aside {a b c : World} {bk : Nat} (k : Within a b) (h : But bk b c) (hb : a.heap.size ≤ bk) : Within a c := ((But.in_ k).trans h).out hb
set_option maxRecDepth 100000 in
set_option maxHeartbeats 1000000 in
theorem Rsameall_any (A B : Option Addr) (c d : Nat) (rs : List Rd) (hl : rs.length ≤ 1152921504606846976) (hv : ∀ r ∈ rs, r.vals.length ≤ 6) (w : World) (h1 : RdsAt w A rs) (h2 : RdsAt w B rs) : Calls Tryd.prog 32 #[.slice A rs.length c, .slice B rs.length d] w fun e w' => e = .returned (.bool true) ∧ Within w w' := by
  have H1 := Lib.hid h1; have H2 := Lib.hid h2; have HV := Lib.hid hv; clear h1 h2 hv
  go_enter Tryd.func32, Tryd.ntmps32
  go_wp2
  go_loopw [13] (fun iv wr => ∃ i : Nat, i ≤ rs.length ∧ iv = .int .i64 (i : Int) ∧ Within w wr) (fun iv _ => rs.length - (intOf iv).toNat)
  case atStart => exact ⟨0, Nat.zero_le _, rfl, Within.refl _⟩
  case round =>
    obtain ⟨i, hi, rfl, hin⟩ := hrel
    by_cases hlt : i < rs.length
    · have hget : rs[i]? = some rs[i] := List.getElem?_eq_getElem hlt
      obtain ⟨r, hr⟩ : ∃ r, r = rs[i] := ⟨_, rfl⟩
      rw [← hr] at hget
      have hrv := HV.out r (by rw [hr]; exact List.getElem_mem hlt)
      obtain ⟨g1, Av, cv, rfl, l1, x0, x1, x2, x3, hs1⟩ := (H1.out.of hin) i r hget
      obtain ⟨g2, Bv, dv, rfl, l2, y0, y1, y2, y3, hs2⟩ := (H2.out.of hin) i r hget
      have SM := Lib.hid (fun (W : World) (h1 : SlAt W Av (f64v r.vals)) (h2 : SlAt W Bv (f64v r.vals)) => Rsame_self (r.sensor : Int) (r.seq : Int) (r.stamp : Int) Av Bv cv dv r.vals (by omega) W h1 h2)
      have HS1 := Lib.hid hs1; have HS2 := Lib.hid hs2; have HIN := Lib.hid hin; clear hs1 hs2 hin hr hget
      rw [Nat.mul_comm 4 i] at x0 x1 x2 x3 y0 y1 y2 y3
      have b1 : (i : Int) < (rs.length : Int) := by omega
      go_wp2_with fail
      refine wp_region_schG (fun W => W.cell? ⟨g1, i * 4, none⟩ = some (.int .i64 (r.sensor : Int)) ∧ W.cell? ⟨g1, i * 4 + 1, none⟩ = some (.int .u32 (r.seq : Int)) ∧ W.cell? ⟨g1, i * 4 + 2, none⟩ = some (.int .u32 (r.stamp : Int)) ∧ W.cell? ⟨g1, i * 4 + 3, none⟩ = some (.slice Av r.vals.length cv) ∧ W.cell? ⟨g2, i * 4, none⟩ = some (.int .i64 (r.sensor : Int)) ∧ W.cell? ⟨g2, i * 4 + 1, none⟩ = some (.int .u32 (r.seq : Int)) ∧ W.cell? ⟨g2, i * 4 + 2, none⟩ = some (.int .u32 (r.stamp : Int)) ∧ W.cell? ⟨g2, i * 4 + 3, none⟩ = some (.slice Bv r.vals.length dv) ∧ g1 < W.heap.size ∧ g2 < W.heap.size ∧ SlAt W Av (f64v r.vals) ∧ SlAt W Bv (f64v r.vals) ∧ Within w W) 9 (.firm 0 (.firm 1 (.firm 2 (.firm 3 (.firm 4 (.firm 5 (.firm 6 (.firm 7 (.one 8 (.one 9 .nil)))))))))) (by kernel_rfl) (by kernel_rfl) ⟨x0, x1, x2, x3, y0, y1, y2, y3, l1, l2, HS1.out, HS2.out, HIN.out⟩ ?_
      rintro w0 ⟨k0, k1, k2, k3, m0, m1, m2, m3, lg1, lg2, hsa0, hsb0, hw0⟩
      try simp only [Act.put, List.setIfInBounds_toArray, List.set_cons_zero, List.set_cons_succ]
      iterate 8
        apply sch_firm rfl rfl (by repeat (first | with_reducible exact Within.refl _ | with_reducible assumption | with_reducible refine Within.alloc ?_ _ | with_reducible refine Within.drew ?_ | with_reducible refine Within.drewN ?_ _ | with_reducible refine Within.setCell ?_ (by first | (simp; done) | (simp; omega)) _ | with_reducible refine Within.trans ?_ (by assumption)))
        · intro wq hq
          have hcq := hq.cells
          clear hq
          go_simp
          rfl
        try simp only [Act.put, List.setIfInBounds_toArray, List.set_cons_zero, List.set_cons_succ]
      refine sch_one rfl rfl (fun K hK => ?_)
      go_simp
      refine (SM.out _ (by exact hsa0.of (by repeat (first | with_reducible exact Within.refl _ | with_reducible assumption | with_reducible refine Within.alloc ?_ _ | with_reducible refine Within.drew ?_ | with_reducible refine Within.drewN ?_ _ | with_reducible refine Within.setCell ?_ (by first | (simp; done) | (simp; omega)) _ | with_reducible refine Within.trans ?_ (by assumption)))) (by exact hsb0.of (by repeat (first | with_reducible exact Within.refl _ | with_reducible assumption | with_reducible refine Within.alloc ?_ _ | with_reducible refine Within.drew ?_ | with_reducible refine Within.drewN ?_ _ | with_reducible refine Within.setCell ?_ (by first | (simp; done) | (simp; omega)) _ | with_reducible refine Within.trans ?_ (by assumption))))).mono ?_; rintro e4 w4 ⟨rfl, h4⟩
      refine hK _ _ (fun _ => (by repeat (first | with_reducible exact Within.refl _ | with_reducible assumption | with_reducible refine Within.alloc ?_ _ | with_reducible refine Within.drew ?_ | with_reducible refine Within.drewN ?_ _ | with_reducible refine Within.setCell ?_ (by first | (simp; done) | (simp; omega)) _ | with_reducible refine Within.trans ?_ (by assumption)))) ?_
      clear hK K
      try simp only [Act.put, List.setIfInBounds_toArray, List.set_cons_zero, List.set_cons_succ]
      refine sch_one rfl rfl (fun K hK => ?_)
      go_simp
      refine hK _ _ (fun h => absurd h (by decide)) ?_
      clear hK K
      try simp only [Act.put, List.setIfInBounds_toArray, List.set_cons_zero, List.set_cons_succ]
      refine sch_nil ?_
      have hw4 : Within w w4 := (by repeat (first | with_reducible exact Within.refl _ | with_reducible assumption | with_reducible refine Within.alloc ?_ _ | with_reducible refine Within.drew ?_ | with_reducible refine Within.drewN ?_ _ | with_reducible refine Within.setCell ?_ (by first | (simp; done) | (simp; omega)) _ | with_reducible refine Within.trans ?_ (by assumption)))
      clear h4 hw0
      go_wp2
      go_roundw
      case rel => exact ⟨i + 1, hlt, by go_num, hw4⟩
      case measure => simp [intOf]; omega
    · obtain rfl : i = rs.length := by omega
      go_wp2
      go_ret
      exact ⟨rfl, hin⟩
end Go.Proofs.YtpmjlaiafgbjgaaDoor
end

section
namespace Go.Proofs.YtpmjlaiafgbjgaaDoor

structure Rec where
  kind : Nat
  data : List Nat
variable (F : Fl)
/-- what is wrong with a record -/
def checkR (k : Int) (d : List Nat) : Int :=
  if k < 1 ∨ 3 < k then 220 else if 1048576 < d.length then 2 else if k = 1 then (if unpackE F d = 0 then 0 else 220) else if k = 3 then (if d.all (fun c => decide (32 ≤ c ∧ c ≤ 126)) then 0 else 220) else 0
def magicV : List Nat := [66, 73, 78, 76, 79, 71, 49, 10]
def linkV (last : Nat) (b : List Nat) : Nat := crcOf (leBytes 4 last ++ b)
def startV : Nat := crcOf magicV
def layA (r : Rec) (n : Nat) : List Nat := [r.kind] ++ leBytes 4 n ++ leBytes 4 r.data.length
def layB (r : Rec) (n last : Nat) : List Nat := layA r n ++ leBytes 4 (linkV last (layA r n)) ++ r.data
def nextV (r : Rec) (n last : Nat) : Nat := linkV last (layB r n last)
def layV (r : Rec) (n last : Nat) : List Nat := layB r n last ++ leBytes 4 (nextV r n last)
/-- records laid one behind the other, from a number and a link on -/
def laidV : List Rec → Nat → Nat → List Nat
  | [], _, _ => []
  | r :: l, n, last => layV r n last ++ laidV l (n + 1) (nextV r n last)
def lastV : List Rec → Nat → Nat → Nat
  | [], _, last => last
  | r :: l, n, last => lastV l (n + 1) (nextV r n last)
def logV (l : List Rec) : List Nat := magicV ++ laidV l 0 startV

def at4 (b : List Nat) (i : Nat) : Nat := leVal ((b.drop i).take 4)
def endV (b : List Nat) : Nat := 13 + at4 b 5
def recV (b : List Nat) : Rec := ⟨b.getD 0 0, (b.drop 13).take (at4 b 5)⟩
/-- why no record begins here; 0: one does -/
def whyV (b : List Nat) (n last : Nat) : Nat :=
  if b.length < 13 then 2
  else if at4 b 9 ≠ linkV last (b.take 9) then 4
  else if b.getD 0 0 < 1 ∨ 3 < b.getD 0 0 ∨ at4 b 1 ≠ n ∨ 1048576 < at4 b 5 ∨ 1048576 ≤ n then 3
  else if b.length < endV b + 4 then 2
  else if at4 b (endV b) ≠ linkV last (b.take (endV b)) then 4
  else if checkR F (b.getD 0 0) ((b.drop 13).take (at4 b 5)) ≠ 0 then 3
  else 0
/-- what is read: records, the kind of the tail, how many bytes are read, the link -/
def readV (b : List Nat) (n last : Nat) : List Rec × Nat × Nat × Nat :=
  match b with
  | [] => ([], 0, 0, last)
  | c :: t =>
    if whyV F (c :: t) n last ≠ 0 then ([], whyV F (c :: t) n last, 0, last)
    else let x := readV ((c :: t).drop (endV (c :: t) + 4)) (n + 1) (linkV last ((c :: t).take (endV (c :: t)))); (recV (c :: t) :: x.1, x.2.1, x.2.2.1 + (endV (c :: t) + 4), x.2.2.2)
termination_by b.length
decreasing_by
  simp only [List.length_drop, List.length_cons]; omega

variable {F}
theorem readV_nil (n last : Nat) : readV F [] n last = ([], 0, 0, last) := by rw [readV]
theorem readV_why {b : List Nat} {n last : Nat} (h0 : b ≠ []) (h : whyV F b n last ≠ 0) : readV F b n last = ([], whyV F b n last, 0, last) := by
  cases b with
  | nil => exact absurd rfl h0
  | cons c t => rw [readV, if_pos h]
theorem whyV_nil (n last : Nat) : whyV F [] n last = 2 := by unfold whyV; rw [if_pos (by decide)]
theorem readV_rec {b : List Nat} {n last : Nat} (h : whyV F b n last = 0) : readV F b n last =
    (recV b :: (readV F (b.drop (endV b + 4)) (n + 1) (linkV last (b.take (endV b)))).1, (readV F (b.drop (endV b + 4)) (n + 1) (linkV last (b.take (endV b)))).2.1, (readV F (b.drop (endV b + 4)) (n + 1) (linkV last (b.take (endV b)))).2.2.1 + (endV b + 4), (readV F (b.drop (endV b + 4)) (n + 1) (linkV last (b.take (endV b)))).2.2.2) := by
  cases b with
  | nil => rw [whyV_nil] at h; cases h
  | cons c t => rw [readV, if_neg (by rw [h]; decide)]

/-- a record that may be -/
structure Rec.Ok (F : Fl) (r : Rec) : Prop where
  ok : checkR F r.kind r.data = 0
  bytes : Bytes r.data
theorem Rec.Ok.parts {r : Rec} (h : r.Ok F) : 1 ≤ r.kind ∧ r.kind ≤ 3 ∧ r.data.length ≤ 1048576 := by
  have := h.ok
  unfold checkR at this
  by_cases h1 : ((r.kind : Int) < 1 ∨ 3 < (r.kind : Int))
  · rw [if_pos h1] at this; cases this
  rw [if_neg h1] at this
  by_cases h2 : 1048576 < r.data.length
  · rw [if_pos h2] at this; cases this
  omega
theorem layA_len (r : Rec) (n : Nat) : (layA r n).length = 9 := by unfold layA; simp only [List.length_append, leBytes_len, List.length_cons, List.length_nil]
theorem layB_len (r : Rec) (n last : Nat) : (layB r n last).length = 13 + r.data.length := by unfold layB; simp only [List.length_append, leBytes_len, layA_len]
theorem layV_len (r : Rec) (n last : Nat) : (layV r n last).length = 13 + r.data.length + 4 := by unfold layV; rw [List.length_append, leBytes_len, layB_len]
theorem layA_bytes {r : Rec} (h : r.Ok F) (n : Nat) : Bytes (layA r n) := by
  have := h.parts
  unfold layA
  refine Bytes.append (Bytes.append ?_ (leBytes_bytes _ _)) (leBytes_bytes _ _)
  intro c hc
  rw [List.mem_singleton] at hc
  omega
theorem layB_bytes {r : Rec} (h : r.Ok F) (n last : Nat) : Bytes (layB r n last) := by
  unfold layB
  exact Bytes.append (Bytes.append (layA_bytes h n) (leBytes_bytes _ _)) h.bytes
theorem layV_bytes {r : Rec} (h : r.Ok F) (n last : Nat) : Bytes (layV r n last) := (layB_bytes h n last).append (leBytes_bytes _ _)
theorem linkV_lt {last : Nat} {b : List Nat} (h : Bytes b) : linkV last b < 4294967296 := crcOf_lt ((leBytes_bytes _ _).append h)
theorem take_app {x y : List Nat} {k : Nat} (h : x.length = k) : (x ++ y).take k = x := by
  rw [List.take_append_of_le_length (by omega), List.take_of_length_le (by omega)]
theorem drop_app {x y : List Nat} {k : Nat} (h : x.length = k) : (x ++ y).drop k = y := by
  rw [List.drop_append_of_le_length (by omega), List.drop_of_length_le (by omega), List.nil_append]
theorem at4_of {x y : List Nat} {i v : Nat} (h : x.length = i) (hv : v < 4294967296) : at4 (x ++ (leBytes 4 v ++ y)) i = v := by
  unfold at4
  rw [drop_app h, take_app (leBytes_len 4 v), leVal_leBytes (by omega)]
/-- the parts of a laid record, with anything behind -/
theorem layV_parts {r : Rec} (h : r.Ok F) {n last : Nat} (hn : n < 4294967296) (z : List Nat) :
    at4 (layV r n last ++ z) 9 = linkV last (layA r n) ∧ (layV r n last ++ z).take 9 = layA r n ∧ (layV r n last ++ z).getD 0 0 = r.kind ∧ at4 (layV r n last ++ z) 1 = n ∧ at4 (layV r n last ++ z) 5 = r.data.length := by
  obtain ⟨h1, h2, h3⟩ := h.parts
  have e1 : layV r n last ++ z = layA r n ++ (leBytes 4 (linkV last (layA r n)) ++ (r.data ++ (leBytes 4 (nextV r n last) ++ z))) := by unfold layV layB; simp only [List.append_assoc]
  have key : ∀ X, layA r n ++ X = [r.kind] ++ (leBytes 4 n ++ (leBytes 4 r.data.length ++ X)) := fun X => by unfold layA; simp only [List.append_assoc]
  have e2 := e1.trans (key _)
  have e3 : layV r n last ++ z = ([r.kind] ++ leBytes 4 n) ++ (leBytes 4 r.data.length ++ (leBytes 4 (linkV last (layA r n)) ++ (r.data ++ (leBytes 4 (nextV r n last) ++ z)))) := by rw [e2, List.append_assoc]
  refine ⟨?_, ?_, ?_, ?_, ?_⟩
  · rw [e1]; exact at4_of (layA_len r n) (linkV_lt (layA_bytes h n))
  · rw [e1]; exact take_app (layA_len r n)
  · rw [e2]; rfl
  · rw [e2]; exact at4_of rfl hn
  · rw [e3]; exact at4_of (by rw [List.length_append, leBytes_len]; rfl) (by omega)
theorem layV_end {r : Rec} (h : r.Ok F) {n last : Nat} (hn : n < 4294967296) (z : List Nat) :
    endV (layV r n last ++ z) = 13 + r.data.length ∧ at4 (layV r n last ++ z) (13 + r.data.length) = nextV r n last ∧ (layV r n last ++ z).take (13 + r.data.length) = layB r n last ∧ ((layV r n last ++ z).drop 13).take r.data.length = r.data ∧ (layV r n last ++ z).drop (13 + r.data.length + 4) = z := by
  have e1 : layV r n last ++ z = layB r n last ++ (leBytes 4 (nextV r n last) ++ z) := by unfold layV; rw [List.append_assoc]
  have e2 : layV r n last ++ z = (layA r n ++ leBytes 4 (linkV last (layA r n))) ++ (r.data ++ (leBytes 4 (nextV r n last) ++ z)) := by rw [e1]; unfold layB; simp only [List.append_assoc]
  refine ⟨?_, ?_, ?_, ?_, ?_⟩
  · unfold endV; rw [(layV_parts h hn z).2.2.2.2]
  · rw [e1]; exact at4_of (layB_len r n last) (linkV_lt (layB_bytes h n last))
  · rw [e1]; exact take_app (layB_len r n last)
  · rw [e2, drop_app (by rw [List.length_append, leBytes_len, layA_len]), take_app rfl]
  · exact drop_app (layV_len r n last)
theorem layV_why {r : Rec} (h : r.Ok F) {n last : Nat} (hn : n < 1048576) (z : List Nat) : whyV F (layV r n last ++ z) n last = 0 ∧ recV (layV r n last ++ z) = r := by
  obtain ⟨h1, h2, h3⟩ := h.parts
  obtain ⟨p1, p2, p3, p4, p5⟩ := layV_parts h (n := n) (last := last) (by omega) z
  obtain ⟨q1, q2, q3, q4, q5⟩ := layV_end h (n := n) (last := last) (by omega) z
  refine ⟨?_, ?_⟩
  · unfold whyV
    rw [if_neg (by rw [List.length_append, layV_len]; omega), if_neg (by rw [p1, p2]; exact fun k => k rfl), if_neg (by rw [p3, p4, p5]; omega), if_neg (by rw [q1, List.length_append, layV_len]; omega),
      if_neg (by rw [q1, q2, q3]; exact fun k => k rfl), p3, p5, q4, if_neg (by rw [h.ok]; decide)]
  · unfold recV; rw [p3, p5, q4]
/-- records that were laid are read, and what is behind them is read on -/
theorem readV_laid : ∀ (l : List Rec) (n last : Nat) (z : List Nat), (∀ r ∈ l, r.Ok F) → n + l.length ≤ 1048576 →
    readV F (laidV l n last ++ z) n last = (l ++ (readV F z (n + l.length) (lastV l n last)).1, (readV F z (n + l.length) (lastV l n last)).2.1, (readV F z (n + l.length) (lastV l n last)).2.2.1 + (laidV l n last).length, (readV F z (n + l.length) (lastV l n last)).2.2.2)
  | [], _, _, _, _, _ => rfl
  | r :: l, n, last, z, h, hn => by
    have hr := h r (by simp)
    rw [List.length_cons] at hn
    have e : laidV (r :: l) n last ++ z = layV r n last ++ (laidV l (n + 1) (nextV r n last) ++ z) := by show (layV r n last ++ _) ++ z = _; rw [List.append_assoc]
    obtain ⟨w1, w2⟩ := layV_why hr (n := n) (last := last) (by omega) (laidV l (n + 1) (nextV r n last) ++ z)
    obtain ⟨q1, q2, q3, q4, q5⟩ := layV_end hr (n := n) (last := last) (by omega) (laidV l (n + 1) (nextV r n last) ++ z)
    have ih := readV_laid l (n + 1) (nextV r n last) z (fun r hr => h r (by simp [hr])) (by omega)
    rw [e, readV_rec w1, w2, q1, q3, q5]
    show (r :: (readV F _ (n + 1) (nextV r n last)).1, (readV F _ (n + 1) (nextV r n last)).2.1, (readV F _ (n + 1) (nextV r n last)).2.2.1 + _, (readV F _ (n + 1) (nextV r n last)).2.2.2) = _
    rw [ih]
    have e1 : n + 1 + l.length = n + (r :: l).length := by rw [List.length_cons]; omega
    have e2 : (laidV (r :: l) n last).length = (layV r n last).length + (laidV l (n + 1) (nextV r n last)).length := List.length_append
    rw [e1, e2, layV_len]
    have e3 : lastV (r :: l) n last = lastV l (n + 1) (nextV r n last) := rfl
    rw [e3, List.cons_append, Nat.add_assoc, Nat.add_comm (laidV l _ _).length]
theorem lastV_lt : ∀ (l : List Rec) (n last : Nat), (∀ r ∈ l, r.Ok F) → last < 4294967296 → lastV l n last < 4294967296
  | [], _, _, _, h => h
  | r :: l, n, last, h, _ => lastV_lt l _ _ (fun r hr => h r (by simp [hr])) (linkV_lt (layB_bytes (h r (by simp)) n last))
theorem laidV_app : ∀ (l m : List Rec) (n last : Nat), laidV (l ++ m) n last = laidV l n last ++ laidV m (n + l.length) (lastV l n last)
  | [], _, _, _ => rfl
  | r :: l, m, n, last => by
    show layV r n last ++ laidV (l ++ m) (n + 1) (nextV r n last) = (layV r n last ++ laidV l (n + 1) (nextV r n last)) ++ laidV m (n + (l.length + 1)) (lastV l (n + 1) (nextV r n last))
    rw [laidV_app l m, List.append_assoc, show n + 1 + l.length = n + (l.length + 1) by omega]
/-- what is read is laid just so -/
theorem readV_back : ∀ (k : Nat) (b : List Nat) (n last : Nat), b.length ≤ k → Bytes b → last < 4294967296 →
    (∀ r ∈ (readV F b n last).1, r.Ok F) ∧ laidV (readV F b n last).1 n last = b.take (readV F b n last).2.2.1 ∧ (readV F b n last).2.2.1 ≤ b.length ∧ ((readV F b n last).2.1 = 0 ↔ (readV F b n last).2.2.1 = b.length) ∧ ((readV F b n last).1 ≠ [] → n + (readV F b n last).1.length ≤ 1048576) ∧ (readV F b n last).2.2.2 = lastV (readV F b n last).1 n last := by
  intro k
  induction k with
  | zero =>
    intro b n last hk _ _
    obtain rfl := List.eq_nil_of_length_eq_zero (Nat.le_zero.1 hk)
    rw [readV_nil]
    exact ⟨(fun r hr => by cases hr), rfl, Nat.le_refl _, by simp, (fun h => absurd rfl h), rfl⟩
  | succ k ih =>
    intro b n last hk hb hl
    by_cases h0 : b = []
    · subst h0
      rw [readV_nil]
      exact ⟨(fun r hr => by cases hr), rfl, Nat.le_refl _, by simp, (fun h => absurd rfl h), rfl⟩
    by_cases hw : whyV F b n last ≠ 0
    · rw [readV_why h0 hw]
      have : b.length ≠ 0 := fun h => h0 (List.eq_nil_of_length_eq_zero h)
      exact ⟨(fun r hr => by cases hr), rfl, Nat.zero_le _, ⟨fun h => absurd h hw, fun h => absurd h.symm this⟩, (fun h => absurd rfl h), rfl⟩
    have hw : whyV F b n last = 0 := by omega
    rw [readV_rec hw]
    unfold whyV at hw
    by_cases c1 : b.length < 13
    · rw [if_pos c1] at hw; cases hw
    rw [if_neg c1] at hw
    by_cases c2 : at4 b 9 ≠ linkV last (b.take 9)
    · rw [if_pos c2] at hw; cases hw
    rw [if_neg c2] at hw
    by_cases c3 : b.getD 0 0 < 1 ∨ 3 < b.getD 0 0 ∨ at4 b 1 ≠ n ∨ 1048576 < at4 b 5 ∨ 1048576 ≤ n
    · rw [if_pos c3] at hw; cases hw
    rw [if_neg c3] at hw
    by_cases c4 : b.length < endV b + 4
    · rw [if_pos c4] at hw; cases hw
    rw [if_neg c4] at hw
    by_cases c5 : at4 b (endV b) ≠ linkV last (b.take (endV b))
    · rw [if_pos c5] at hw; cases hw
    rw [if_neg c5] at hw
    by_cases c6 : checkR F (b.getD 0 0) ((b.drop 13).take (at4 b 5)) ≠ 0
    · rw [if_pos c6] at hw; cases hw
    simp only [ne_eq, Decidable.not_not] at c2 c5 c6
    have hE : endV b = 13 + at4 b 5 := rfl
    have hdl : ((b.drop 13).take (at4 b 5)).length = at4 b 5 := by rw [List.length_take, List.length_drop]; omega
    have hok : (recV b).Ok F := ⟨c6, (hb.drop 13).take _⟩
    have h4 : ∀ i, i + 4 ≤ b.length → leBytes 4 (at4 b i) = (b.drop i).take 4 := fun i hi => leBytes_leVal ((hb.drop i).take 4) (by rw [List.length_take, List.length_drop]; omega)
    have hA : layA (recV b) n = b.take 9 := by
      unfold layA
      have e5 : (recV b).data.length = at4 b 5 := hdl
      have en : n = at4 b 1 := by omega
      rw [e5, en, h4 1 (by omega), h4 5 (by omega)]
      have e0 : [(recV b).kind] = b.take 1 := by
        match b, c1 with
        | c :: t, _ => rfl
        | [], h => exact absurd (by decide) h
      rw [e0, show 9 = 1 + 4 + 4 from rfl, List.take_add, List.take_add]
    have hB : layB (recV b) n last = b.take (endV b) := by
      unfold layB
      rw [hA, ← c2, h4 9 (by omega)]
      show b.take 9 ++ (b.drop 9).take 4 ++ (b.drop 13).take (at4 b 5) = _
      rw [hE, List.take_add, show 13 = 9 + 4 from rfl, List.take_add]
    have hN : nextV (recV b) n last = linkV last (b.take (endV b)) := by unfold nextV; rw [hB]
    have hV : layV (recV b) n last = b.take (endV b + 4) := by
      unfold layV
      rw [hB, hN, ← c5, h4 _ (by omega), List.take_add]
    obtain ⟨i1, i2, i3, i4, i5, i6⟩ := ih (b.drop (endV b + 4)) (n + 1) (linkV last (b.take (endV b))) (by rw [List.length_drop]; omega) (hb.drop _) (linkV_lt (hb.take _))
    rw [List.length_drop] at i3 i4
    refine ⟨?_, ?_, ?_, ?_, ?_, ?_⟩
    · intro r hr
      rcases List.mem_cons.1 hr with rfl | h
      · exact hok
      · exact i1 r h
    · show layV (recV b) n last ++ laidV _ (n + 1) (nextV (recV b) n last) = _
      rw [hN, i2, hV, ← List.take_add, Nat.add_comm]
    · show _ + (endV b + 4) ≤ _
      omega
    · show _ ↔ _ + (endV b + 4) = _
      rw [i4]
      omega
    · intro _
      show n + (_ + 1) ≤ _
      by_cases hz : (readV F (b.drop (endV b + 4)) (n + 1) (linkV last (b.take (endV b)))).1 = []
      · rw [hz]; show n + (0 + 1) ≤ _; omega
      · have := i5 hz; omega
    · show _ = lastV _ (n + 1) (nextV (recV b) n last)
      rw [hN]; exact i6
end Go.Proofs.YtpmjlaiafgbjgaaDoor
end

section
namespace Go.Proofs.YtpmjlaiafgbjgaaDoor
open Go.RowKit

/-- but for the blocks of S nothing old has turned -/
structure ButS (S : Nat → Prop) (w w' : World) : Prop where
  os : w'.os = w.os
  tape : w'.tape = w.tape
  output : w'.output = w.output
  size : w.heap.size ≤ w'.heap.size
  block : ∀ k, k < w.heap.size → ¬ S k → w'.heap[k]? = w.heap[k]?
theorem ButS.in_ {S : Nat → Prop} {a b : World} (h : Within a b) : ButS S a b := ⟨h.os, h.tape, h.output, h.size, fun k hk _ => h.block k hk⟩
theorem ButS.refl (S : Nat → Prop) (w : World) : ButS S w w := ButS.in_ (Within.refl w)
theorem ButS.trans {S S' : Nat → Prop} {a b c : World} (h : ButS S a b) (k : ButS S' b c) (hs : ∀ j, j < a.heap.size → S' j → S j) : ButS S a c :=
  ⟨k.os.trans h.os, k.tape.trans h.tape, k.output.trans h.output, Nat.le_trans h.size k.size, fun j hj hn => (k.block j (Nat.lt_of_lt_of_le hj h.size) (fun h' => hn (hs j hj h'))).trans (h.block j hj hn)⟩
theorem ButS.within {S : Nat → Prop} {a b c : World} (h : ButS S a b) (k : Within b c) : ButS S a c := h.trans (ButS.in_ (S := S) k) fun _ _ h => h
theorem ButS.mono {S S' : Nat → Prop} {a b : World} (h : ButS S a b) (hs : ∀ j, j < a.heap.size → S j → S' j) : ButS S' a b := ⟨h.os, h.tape, h.output, h.size, fun k hk hn => h.block k hk (fun h' => hn (hs k hk h'))⟩
theorem ButS.of_but {S : Nat → Prop} {a b : World} {bk : Nat} (h : But bk a b) (hs : S bk) : ButS S a b := ⟨h.os, h.tape, h.output, h.size, fun k hk hn => h.block k hk (fun e => hn (by injection e with e; rw [e]; exact hs))⟩
theorem ButS.grown {S : Nat → Prop} {a b c : World} {row : Option Nat} (h : ButS S a b) (k : b.grownBy c row) (hr : ∀ j, row = some j → S j ∨ a.heap.size ≤ j) : ButS S a c :=
  ⟨k.os.trans h.os, k.tape.trans h.tape, k.output.trans h.output, Nat.le_trans h.size k.size, fun j hj hn => (k.block j (Nat.lt_of_lt_of_le hj h.size) (fun e => by rcases hr j e.symm with h' | h'; exact hn h'; omega)).trans (h.block j hj hn)⟩
theorem ButS.set {S : Nat → Prop} {a b : World} (h : ButS S a b) {p : Addr} (hp : S p.block ∨ a.heap.size ≤ p.block) (u : Value) : ButS S a (b.setCell p u) :=
  ⟨h.os, h.tape, h.output, Nat.le_trans h.size (by simp [World.setCell]), fun k hk hn => (Below.heap_setCell _ _ _ _ (by
    intro e; rcases hp with hp | hp
    · exact hn (by rw [e]; exact hp)
    · omega)).trans (h.block k hk hn)⟩
theorem ButS.alloc {S : Nat → Prop} {a b : World} (h : ButS S a b) (o : Obj) : ButS S a (b.alloc o) := h.within ((Within.refl b).alloc o)
theorem ButS.drew {S : Nat → Prop} {a b : World} (h : ButS S a b) : ButS S a b.drew := h.within ((Within.refl b).drew)
theorem ButS.cells {S : Nat → Prop} {a b : World} (h : ButS S a b) (k o : Nat) (hk : k < a.heap.size) (hn : ¬ S k) : b.cell? ⟨k, o, none⟩ = a.cell? ⟨k, o, none⟩ := World.cell?_of_block (h.block k hk hn)
theorem ButS.frozens {S : Nat → Prop} {a b : World} (h : ButS S a b) (k o : Nat) (hk : k < a.heap.size) (hn : ¬ S k) : b.frozen? ⟨k, o, none⟩ = a.frozen? ⟨k, o, none⟩ := World.frozen?_of_block (h.block k hk hn)
theorem ButS.cellA {S : Nat → Prop} {a b : World} (h : ButS S a b) {p : Addr} (hk : p.block < a.heap.size) (hn : ¬ S p.block) : b.cell? p = a.cell? p := World.cell?_of_block (h.block _ hk hn)
/-- what was there before the blocks of S were made is there still -/
theorem Within.asides {S : Nat → Prop} {a b c : World} (k : Within a b) (h : ButS S b c) (hs : ∀ j, S j → a.heap.size ≤ j) : Within a c :=
  ⟨h.os.trans k.os, h.tape.trans k.tape, h.output.trans k.output, Nat.le_trans k.size h.size, fun j hj => (h.block j (Nat.lt_of_lt_of_le hj k.size) (fun h' => by have := hs j h'; omega)).trans (k.block j hj)⟩
theorem SlAt.butS {S : Nat → Prop} {w w' : World} {A : Option Addr} {xs : List Value} (h : SlAt w A xs) (k : ButS S w w') (hA : ∀ ad, A = some ad → ¬ S ad.block) : SlAt w' A xs := fun hn => by
  obtain ⟨ad, e, hb, hc⟩ := h hn
  exact ⟨ad, e, Nat.lt_of_lt_of_le hb k.size, fun j u hu => (k.cellA (by rw [add_block]; exact hb) (by rw [add_block]; exact hA ad e)).trans (hc j u hu)⟩
/-- S, and what was made since -/
def More (S : Nat → Prop) (w w' : World) : Nat → Prop := fun k => S k ∨ (w.heap.size ≤ k ∧ k < w'.heap.size)

/-! slices of records -/
/-- a record in memory: its kind, its bytes -/
abbrev IRec := Int × List Nat
def Rec.i (r : Rec) : IRec := ((r.kind : Int), r.data)
/-- at A lie these records, to be read; their bytes in blocks that D allows -/
def RecAt (w : World) (D : Nat → Prop) (A : Option Addr) (ls : List IRec) : Prop := ∀ (i : Nat) r, ls[i]? = some r → ∃ ad Dv cv, A = some ad ∧ ad.block < w.heap.size ∧ D ad.block ∧ w.cell? (ad.add (i * 2)) = some (.int .i64 r.1) ∧ w.cell? (ad.add (i * 2 + 1)) = some (.slice Dv r.2.length cv) ∧ r.2.length ≤ cv ∧ SlAt w Dv (u8v r.2) ∧ (∀ x, Dv = some x → D x.block) ∧ Bytes r.2
theorem RecAt.of {w w' : World} {D : Nat → Prop} {A : Option Addr} {ls : List IRec} (h : RecAt w D A ls) (k : Within w w') : RecAt w' D A ls := fun i r hi => by
  obtain ⟨ad, Dv, cv, h1, h2, h3, h4, h5, h6, h7, h8, h9⟩ := h i r hi
  have key : ∀ j, w'.cell? (ad.add j) = w.cell? (ad.add j) := fun j => k.cell (by rw [add_block]; exact h2)
  exact ⟨ad, Dv, cv, h1, Nat.lt_of_lt_of_le h2 k.size, h3, (key _).trans h4, (key _).trans h5, h6, h7.of k, h8, h9⟩
theorem RecAt.butS {S : Nat → Prop} {w w' : World} {D : Nat → Prop} {A : Option Addr} {ls : List IRec} (h : RecAt w D A ls) (k : ButS S w w') (hd : ∀ j, D j → ¬ S j) : RecAt w' D A ls := fun i r hi => by
  obtain ⟨ad, Dv, cv, h1, h2, h3, h4, h5, h6, h7, h8, h9⟩ := h i r hi
  have key : ∀ j, w'.cell? (ad.add j) = w.cell? (ad.add j) := fun j => k.cellA (by rw [add_block]; exact h2) (by rw [add_block]; exact hd _ h3)
  exact ⟨ad, Dv, cv, h1, Nat.lt_of_lt_of_le h2 k.size, h3, (key _).trans h4, (key _).trans h5, h6, h7.butS k (fun x e => hd _ (h8 x e)), h8, h9⟩
theorem RecAt.weak {w : World} {D D' : Nat → Prop} {A : Option Addr} {ls : List IRec} (h : RecAt w D A ls) (hd : ∀ j, D j → D' j) : RecAt w D' A ls := fun i r hi => by
  obtain ⟨ad, Dv, cv, h1, h2, h3, h4, h5, h6, h7, h8, h9⟩ := h i r hi
  exact ⟨ad, Dv, cv, h1, h2, hd _ h3, h4, h5, h6, h7, fun x e => hd _ (h8 x e), h9⟩
theorem RecAt.nil {w : World} {D : Nat → Prop} {A : Option Addr} : RecAt w D A [] := fun i r h => by simp at h
end Go.Proofs.YtpmjlaiafgbjgaaDoor
end

section
namespace Go.Proofs.YtpmjlaiafgbjgaaDoor
open Go.RowKit

theorem le4 (n : Nat) : leBytes 4 n = [n % 256, n / 256 % 256, n / 65536 % 256, n / 16777216 % 256] := by
  show [n % 256, n / 256 % 256, n / 256 / 256 % 256, n / 256 / 256 / 256 % 256] = _
  rw [Nat.div_div_eq_div_mul, Nat.div_div_eq_div_mul]
theorem leVal4 (a b c d : Nat) : leVal [a, b, c, d] = a + 256 * b + 65536 * c + 16777216 * d := by
  show a + 256 * (b + 256 * (c + 256 * (d + 256 * 0))) = _
  omega
/-- the first four of a list -/
theorem take4 {l : List Nat} (h : 4 ≤ l.length) : l.take 4 = [l.getD 0 0, l.getD 1 0, l.getD 2 0, l.getD 3 0] := by
  match l, h with
  | a :: b :: c :: d :: l, _ => simp

set_option maxRecDepth 100000 in
set_option maxHeartbeats 1000000 in
theorem word_any (base : Nat) (v : Value) (l : List Nat) (n : Nat) (hn : n < 4294967296) (hl : l.length + 4 ≤ 140737488355328) (w : World) (hb : base ≤ w.heap.size) (hown : OwnB w base v l) : Calls Tryd.prog 83 #[v, .int .u32 (n : Int)] w fun e w' => ∃ v', e = .returned v' ∧ OwnB w' base v' (l ++ leBytes 4 n) ∧ Below base w w' := by
  obtain ⟨A, c, rfl, _, _, _⟩ := hown.form
  obtain ⟨a0, h0⟩ : ∃ a, a = n % 256 := ⟨_, rfl⟩
  obtain ⟨a1, h1⟩ : ∃ a, a = n / 256 % 256 := ⟨_, rfl⟩
  obtain ⟨a2, h2⟩ : ∃ a, a = n / 65536 % 256 := ⟨_, rfl⟩
  obtain ⟨a3, h3⟩ : ∃ a, a = n / 16777216 % 256 := ⟨_, rfl⟩
  have hle : l ++ leBytes 4 n = l ++ [a0, a1, a2, a3] := by rw [le4, h0, h1, h2, h3]
  have e0 : IntKind.u8.wrap (n : Int) = (a0 : Int) := by rw [IntKind.wrap_u8]; omega
  have s1 : IntKind.u32.wrap ((n : Int) / 256) = (n : Int) / 256 := by rw [IntKind.wrap_u32]; omega
  have s2 : IntKind.u32.wrap ((n : Int) / 65536) = (n : Int) / 65536 := by rw [IntKind.wrap_u32]; omega
  have s3 : IntKind.u32.wrap ((n : Int) / 16777216) = (n : Int) / 16777216 := by rw [IntKind.wrap_u32]; omega
  have e1 : IntKind.u8.wrap ((n : Int) / 256) = (a1 : Int) := by rw [IntKind.wrap_u8]; omega
  have e2 : IntKind.u8.wrap ((n : Int) / 65536) = (a2 : Int) := by rw [IntKind.wrap_u8]; omega
  have e3 : IntKind.u8.wrap ((n : Int) / 16777216) = (a3 : Int) := by rw [IntKind.wrap_u8]; omega
  have hin := (Within.refl w).alloc (.cells #[.int .u8 (a0 : Int), .int .u8 (a1 : Int), .int .u8 (a2 : Int), .int .u8 (a3 : Int)] 5)
  obtain ⟨v', w', hrun, hown', hbl⟩ := run_app_u8 _ base _ l [a0, a1, a2, a3] (hown.of hin) (some ⟨w.heap.size, 0, none⟩) 4 (SlAt.made w [.int .u8 (a0 : Int), .int .u8 (a1 : Int), .int .u8 (a2 : Int), .int .u8 (a3 : Int)] 5) (by simp only [List.length_cons, List.length_nil]; omega) (Nat.le_trans hb hin.size)
  rw [hle]
  have hB : Below base w w' := ((Below.refl base w).alloc hb _).trans hbl
  have RUN := Lib.hid hrun; have HO := Lib.hid hown'; have HB := Lib.hid hB; clear hrun hown' hB hbl hown hin h0 h1 h2 h3 hle
  go_enter Tryd.func83, Tryd.ntmps83
  go_wp2_with (at_builtin; refine wpList_append_run rfl (.tmp 5) (.tmp 17) 22 rfl _ _ rfl rfl RUN.out ?_)
  go_ret
  exact ⟨_, rfl, HO.out, HB.out⟩

set_option maxRecDepth 100000 in
set_option maxHeartbeats 1000000 in
theorem jsum_any (n : Nat) (hn : n < 4294967296) (A : Option Addr) (c : Nat) (l : List Nat) (hb : Bytes l) (hl : l.length ≤ 70368744177664) (w : World) (hr : SlAt w A (u8v l)) : Calls Tryd.prog 82 #[.int .u32 (n : Int), .slice A l.length c] w fun e w' => e = .returned (.int .u32 (linkV n l : Int)) ∧ Within w w' := by
  have W1 := Lib.hid (word_any w.heap.size (.slice none 0 0) [] n hn (by simp) w (Nat.le_refl _) (OwnB.nil_ _ _))
  have HR := Lib.hid hr; have HB := Lib.hid hb; clear hr hb
  go_enter Tryd.func82, Tryd.ntmps82
  go_wp2_with fail
  refine W1.out.mono ?_; rintro e1 w1 ⟨v1, rfl, hO1, hB1⟩
  have hW1 : Within w w1 := hB1
  rw [List.nil_append] at hO1
  obtain ⟨v2, w2, hrun, hO2, hB2⟩ := run_app_u8 w1 w.heap.size v1 (leBytes 4 n) l hO1 A c (HR.out.of hW1) (by rw [leBytes_len]; omega) hW1.size
  obtain ⟨A1, c1, rfl, _, _, _⟩ := hO1.form
  obtain ⟨A2, c2, rfl, hc2, hs2, _⟩ := hO2.form
  have SU := Lib.hid (sum_any A2 c2 (leBytes 4 n ++ l) ((leBytes_bytes _ _).append HB.out) (by rw [List.length_append, leBytes_len]; omega) w2 hs2)
  have hW2 : Within w w2 := Below.trans hW1 hB2
  have RUN := Lib.hid hrun; have HW2 := Lib.hid hW2; clear hrun hW2 hO1 hO2 hs2 hc2 hB1 hB2 hW1
  obtain ⟨N, hN⟩ : ∃ N, (leBytes 4 n ++ l).length = N := ⟨_, rfl⟩
  rw [hN] at SU RUN
  obtain ⟨M, hM⟩ : ∃ M, (leBytes 4 n).length = M := ⟨_, rfl⟩
  rw [hM] at RUN ⊢
  clear hN hM
  go_wp2_with (at_builtin; refine wpList_append_run rfl (.tmp 6) (.tmp 7) 22 rfl _ _ rfl rfl RUN.out ?_)
  refine SU.out.mono ?_; rintro e3 w3 ⟨rfl, rfl⟩
  go_wp2
  go_ret
  exact ⟨rfl, HW2.out⟩

set_option maxRecDepth 100000 in
set_option maxHeartbeats 1000000 in
theorem begin_any (w : World) : Calls Tryd.prog 61 #[] w fun e w' => e = .returned (.int .u32 (startV : Int)) ∧ Within w w' := by
  have SU := Lib.hid (sum_any (some ⟨w.heap.size, 0, none⟩) 8 magicV (by intro x hx; revert x; decide) (by decide) _ (SlAt.made_mark w (u8v magicV) 5 (8, 9)))
  have kc := fun (w : World) (C : Array Value) (n c : Nat) => Lib.run_convert_bytes_const (P := Tryd.prog) w 22 5 C n c (by kernel_rfl) (by kernel_rfl)
  go_enter Tryd.func61, Tryd.ntmps61
  go_wp2_with fail
  refine SU.out.mono ?_; rintro e3 w3 ⟨rfl, rfl⟩
  go_wp2
  go_ret
  exact ⟨rfl, (by repeat (first | with_reducible exact Within.refl _ | with_reducible assumption | with_reducible refine Within.alloc ?_ _ | with_reducible refine Within.drew ?_ | with_reducible refine Within.drewN ?_ _ | with_reducible refine Within.setCell ?_ (by first | (simp; done) | (simp; omega)) _ | with_reducible refine Within.trans ?_ (by assumption)))⟩

set_option maxRecDepth 100000 in
set_option maxHeartbeats 1000000 in
theorem number_any (ad : Addr) (n c : Nat) (l : List Nat) (hb : Bytes l) (h4 : 4 ≤ l.length) (hn : 4 ≤ n) (w : World) (hr : SlAt w (some ad) (u8v l)) : Calls Tryd.prog 81 #[.slice (some ad) n c] w fun e w' => e = .returned (.int .u32 (leVal (l.take 4) : Int)) ∧ Within w w' := by
  have key : ∀ k x, k < 4 → l.getD k 0 = x → w.cell? (ad.add k) = some (.int .u8 (x : Int)) := fun k x hk e => by
    obtain ⟨ad', e', _, h⟩ := hr.at (show k < l.length by omega)
    obtain rfl := Option.some.inj e'; rw [← e]; exact h
  have hbl : ad.block < w.heap.size := by obtain ⟨ad', e', hb', _⟩ := hr (by rw [u8v_len]; omega); obtain rfl := Option.some.inj e'; exact hb'
  rw [take4 h4, leVal4]
  obtain ⟨x0, hx0⟩ : ∃ x, l.getD 0 0 = x := ⟨_, rfl⟩
  obtain ⟨x1, hx1⟩ : ∃ x, l.getD 1 0 = x := ⟨_, rfl⟩
  obtain ⟨x2, hx2⟩ : ∃ x, l.getD 2 0 = x := ⟨_, rfl⟩
  obtain ⟨x3, hx3⟩ : ∃ x, l.getD 3 0 = x := ⟨_, rfl⟩
  have b0 := key 0 x0 (by decide) hx0
  rw [add_nought] at b0
  have b1 := key 1 x1 (by decide) hx1
  have b2 := key 2 x2 (by decide) hx2
  have b3 := key 3 x3 (by decide) hx3
  rw [add_plain' ad (by decide)] at b1 b2 b3
  have l0 : x0 < 256 := by rw [← hx0]; exact hb.at (by omega)
  have l1 : x1 < 256 := by rw [← hx1]; exact hb.at (by omega)
  have l2 : x2 < 256 := by rw [← hx2]; exact hb.at (by omega)
  have l3 : x3 < 256 := by rw [← hx3]; exact hb.at (by omega)
  rw [hx0, hx1, hx2, hx3]
  have o1 : bits .or .u32 (x0 : Int) ((x1 : Int) * 256) = ((x0 + 256 * x1 : Nat) : Int) := by
    have h1 : ((x1 : Int) * 256) = ((x1 * 2 ^ 8 : Nat) : Int) := by omega
    rw [h1, u32_or_nat x0 (x1 * 2 ^ 8) (by omega) (by omega), Nat.or_comm, ← Nat.shiftLeft_eq, ← Nat.shiftLeft_add_eq_or_of_lt (by omega), Nat.shiftLeft_eq]; omega
  have o2 : bits .or .u32 ((x0 : Int) + 256 * (x1 : Int)) ((x2 : Int) * 65536) = ((x0 + 256 * x1 + 65536 * x2 : Nat) : Int) := by
    have h1 : ((x2 : Int) * 65536) = ((x2 * 2 ^ 16 : Nat) : Int) := by omega
    have h2 : ((x0 : Int) + 256 * (x1 : Int)) = ((x0 + 256 * x1 : Nat) : Int) := by omega
    rw [h1, h2, u32_or_nat _ (x2 * 2 ^ 16) (by omega) (by omega), Nat.or_comm, ← Nat.shiftLeft_eq, ← Nat.shiftLeft_add_eq_or_of_lt (by omega), Nat.shiftLeft_eq]; omega
  have o3 : bits .or .u32 ((x0 : Int) + 256 * (x1 : Int) + 65536 * (x2 : Int)) ((x3 : Int) * 16777216) = ((x0 + 256 * x1 + 65536 * x2 + 16777216 * x3 : Nat) : Int) := by
    have h1 : ((x3 : Int) * 16777216) = ((x3 * 2 ^ 24 : Nat) : Int) := by omega
    have h2 : ((x0 : Int) + 256 * (x1 : Int) + 65536 * (x2 : Int)) = ((x0 + 256 * x1 + 65536 * x2 : Nat) : Int) := by omega
    rw [h1, h2, u32_or_nat _ (x3 * 2 ^ 24) (by omega) (by omega), Nat.or_comm, ← Nat.shiftLeft_eq, ← Nat.shiftLeft_add_eq_or_of_lt (by omega), Nat.shiftLeft_eq]; omega
  have c0 : IntKind.u32.wrap (x0 : Int) = (x0 : Int) := by rw [IntKind.wrap_u32]; omega
  have c1 : IntKind.u32.wrap (x1 : Int) = (x1 : Int) := by rw [IntKind.wrap_u32]; omega
  have c2 : IntKind.u32.wrap (x2 : Int) = (x2 : Int) := by rw [IntKind.wrap_u32]; omega
  have c3 : IntKind.u32.wrap (x3 : Int) = (x3 : Int) := by rw [IntKind.wrap_u32]; omega
  have m1 : IntKind.u32.wrap ((x1 : Int) * 256) = (x1 : Int) * 256 := by rw [IntKind.wrap_u32]; omega
  have m2 : IntKind.u32.wrap ((x2 : Int) * 65536) = (x2 : Int) * 65536 := by rw [IntKind.wrap_u32]; omega
  have m3 : IntKind.u32.wrap ((x3 : Int) * 16777216) = (x3 : Int) * 16777216 := by rw [IntKind.wrap_u32]; omega
  have n0 : 0 < n := by omega
  have i0 : (0 : Int) < (n : Int) := by omega
  have i1 : (1 : Int) < (n : Int) := by omega
  have i2 : (2 : Int) < (n : Int) := by omega
  have i3 : (3 : Int) < (n : Int) := by omega
  clear key hr hb hx0 hx1 hx2 hx3
  go_enter Tryd.func81, Tryd.ntmps81
  go_wp2_with fail
  refine wp_region_schG (fun W => W.cell? ad = some (.int .u8 (x0 : Int)) ∧ W.cell? ⟨ad.block, ad.off + 1, none⟩ = some (.int .u8 (x1 : Int)) ∧ W.cell? ⟨ad.block, ad.off + 2, none⟩ = some (.int .u8 (x2 : Int)) ∧ W.cell? ⟨ad.block, ad.off + 3, none⟩ = some (.int .u8 (x3 : Int)) ∧ ad.block < W.heap.size ∧ W = w) 22 (.firm 0 (.firm 1 (.firm 2 (.firm 3 (.firm 4 (.firm 5 (.firm 6 (.firm 7 (.firm 8 (.firm 9 (.firm 10 (.firm 11 (.firm 12 (.firm 13 (.firm 14 (.firm 15 (.firm 16 (.firm 17 (.firm 18 (.firm 19 (.firm 20 (.firm 21 (.one 22 .nil))))))))))))))))))))))) (by kernel_rfl) (by kernel_rfl) ⟨b0, b1, b2, b3, hbl, rfl⟩ ?_
  rintro w0 ⟨k0, k1, k2, k3, kb, rfl⟩
  try simp only [Act.put, List.setIfInBounds_toArray, List.set_cons_zero, List.set_cons_succ]
  iterate 22
    apply sch_firm rfl rfl (by repeat (first | with_reducible exact Within.refl _ | with_reducible assumption | with_reducible refine Within.alloc ?_ _ | with_reducible refine Within.drew ?_ | with_reducible refine Within.drewN ?_ _ | with_reducible refine Within.setCell ?_ (by first | (simp; done) | (simp; omega)) _ | with_reducible refine Within.trans ?_ (by assumption)))
    · intro wq hq
      have hcq := hq.cells
      have q0 := (hq.cell (p := ad) kb).trans k0
      have q1 := (hq.cell (p := ⟨ad.block, ad.off + 1, none⟩) kb).trans k1
      have q2 := (hq.cell (p := ⟨ad.block, ad.off + 2, none⟩) kb).trans k2
      have q3 := (hq.cell (p := ⟨ad.block, ad.off + 3, none⟩) kb).trans k3
      clear hq
      go_simp
      rfl
    try simp only [Act.put, List.setIfInBounds_toArray, List.set_cons_zero, List.set_cons_succ]
  refine sch_one rfl rfl (fun K hK => ?_)
  go_simp
  refine hK _ _ (fun h => absurd h (by decide)) ?_
  clear hK K
  try simp only [Act.put, List.setIfInBounds_toArray, List.set_cons_zero, List.set_cons_succ]
  refine sch_nil ?_
  go_wp2
  go_ret
  exact ⟨by first | rfl | exact ret_int (by omega), (by repeat (first | with_reducible exact Within.refl _ | with_reducible assumption | with_reducible refine Within.alloc ?_ _ | with_reducible refine Within.drew ?_ | with_reducible refine Within.drewN ?_ _ | with_reducible refine Within.setCell ?_ (by first | (simp; done) | (simp; omega)) _ | with_reducible refine Within.trans ?_ (by assumption)))⟩

end Go.Proofs.YtpmjlaiafgbjgaaDoor
end

section
namespace Go.Proofs.YtpmjlaiafgbjgaaDoor
open Go.RowKit

def noteOk (c : Nat) : Bool := decide (32 ≤ c ∧ c ≤ 126)
theorem checkR_kind {k : Int} {d : List Nat} (h : k < 1 ∨ 3 < k) : checkR pf k d = 220 := by unfold checkR; rw [if_pos h]
theorem checkR_long {k : Int} {d : List Nat} (h : ¬ (k < 1 ∨ 3 < k)) (h2 : 1048576 < d.length) : checkR pf k d = 2 := by unfold checkR; rw [if_neg h, if_pos h2]
theorem checkR_read {d : List Nat} (h2 : ¬ 1048576 < d.length) : checkR pf 1 d = if unpackE pf d = 0 then 0 else 220 := by unfold checkR; rw [if_neg (by decide), if_neg h2, if_pos rfl]
theorem checkR_mark {d : List Nat} (h2 : ¬ 1048576 < d.length) : checkR pf 2 d = 0 := by unfold checkR; rw [if_neg (by decide), if_neg h2, if_neg (by decide), if_neg (by decide)]
theorem checkR_note {d : List Nat} (h2 : ¬ 1048576 < d.length) : checkR pf 3 d = if d.all noteOk then 0 else 220 := by unfold checkR; rw [if_neg (by decide), if_neg h2, if_neg (by decide), if_pos rfl]; rfl

set_option maxRecDepth 100000 in
set_option maxHeartbeats 1000000 in
theorem jcheck_kind (A : Option Addr) (c : Nat) (d : List Nat) (k : Int) (h : k < 1 ∨ 3 < k) (w : World)  : Calls Tryd.prog 26 #[.agg #[.int .i64 k, .slice A d.length c]] w fun e w' => e = .returned (.int .i64 220) ∧ Within w w' := by
  have hk : (decide (k < 1) || decide (k > 3)) = true := by rcases h with h | h; simp [h]; simp [h]
  cases e1 : decide (k < 1) <;> cases e2 : decide (k > 3) <;> simp only [e1, e2, Bool.or_false, Bool.false_eq_true] at hk
  all_goals
    clear h hk
    go_enter Tryd.func26, Tryd.ntmps26
    go_wp2
    go_ret
    exact ⟨rfl, (by repeat (first | with_reducible exact Within.refl _ | with_reducible assumption | with_reducible refine Within.alloc ?_ _ | with_reducible refine Within.drew ?_ | with_reducible refine Within.drewN ?_ _ | with_reducible refine Within.setCell ?_ (by first | (simp; done) | (simp; omega)) _ | with_reducible refine Within.trans ?_ (by assumption)))⟩

set_option maxRecDepth 100000 in
set_option maxHeartbeats 1000000 in
theorem jcheck_long (A : Option Addr) (c : Nat) (d : List Nat) (k : Int) (h : ¬ (k < 1 ∨ 3 < k)) (h2 : 1048576 < d.length) (hl : d.length ≤ 1152921504606846976) (w : World)  : Calls Tryd.prog 26 #[.agg #[.int .i64 k, .slice A d.length c]] w fun e w' => e = .returned (.int .i64 2) ∧ Within w w' := by
  have e1 : decide (k < 1) = false := decide_eq_false (by omega)
  have e2 : decide (k > 3) = false := decide_eq_false (by omega)
  have e3 : 1048576 < d.length := h2
  have HL := Lib.hid hl
  clear h
  go_enter Tryd.func26, Tryd.ntmps26
  go_wp2
  go_ret
  exact ⟨rfl, (by repeat (first | with_reducible exact Within.refl _ | with_reducible assumption | with_reducible refine Within.alloc ?_ _ | with_reducible refine Within.drew ?_ | with_reducible refine Within.drewN ?_ _ | with_reducible refine Within.setCell ?_ (by first | (simp; done) | (simp; omega)) _ | with_reducible refine Within.trans ?_ (by assumption)))⟩

set_option maxRecDepth 100000 in
set_option maxHeartbeats 1000000 in
theorem jcheck_mark (A : Option Addr) (c : Nat) (d : List Nat) (h2 : ¬ 1048576 < d.length) (w : World)  : Calls Tryd.prog 26 #[.agg #[.int .i64 2, .slice A d.length c]] w fun e w' => e = .returned (.int .i64 0) ∧ Within w w' := by
  have e3 : ¬ 1048576 < d.length := h2
  have e0 : (0 : Int) ≤ (d.length : Int) := by omega
  go_enter Tryd.func26, Tryd.ntmps26
  go_wp2
  go_ret
  exact ⟨rfl, (by repeat (first | with_reducible exact Within.refl _ | with_reducible assumption | with_reducible refine Within.alloc ?_ _ | with_reducible refine Within.drew ?_ | with_reducible refine Within.drewN ?_ _ | with_reducible refine Within.setCell ?_ (by first | (simp; done) | (simp; omega)) _ | with_reducible refine Within.trans ?_ (by assumption)))⟩

set_option maxRecDepth 100000 in
set_option maxHeartbeats 1000000 in
theorem jcheck_read (A : Option Addr) (c : Nat) (d : List Nat) (hb : Bytes d) (hc : d.length ≤ c) (h2 : ¬ 1048576 < d.length) (hz : unpackE pf d = 0) (w : World) (hT : FmS w) (hr : SlAt w A (u8v d)) : Calls Tryd.prog 26 #[.agg #[.int .i64 1, .slice A d.length c]] w fun e w' => e = .returned (.int .i64 0) ∧ Within w w' := by
  have UN := Lib.hid (Unpack_any A c d hb (by omega) hc (w.alloc (.cells #[.int .i64 1, .slice A d.length c] 50)) (hT.of ((Within.refl w).alloc _)) (hr.of ((Within.refl w).alloc _)))
  obtain ⟨E, hE⟩ : ∃ E, E = unpackE pf d := ⟨_, rfl⟩
  rw [← hE] at UN hz
  obtain ⟨rd, hrd⟩ : ∃ rd, rd = rdOf d := ⟨_, rfl⟩
  rw [← hrd] at UN
  clear hE hrd hr hb
  clear hT
  have e3 : ¬ 1048576 < d.length := h2
  subst hz
  go_enter Tryd.func26, Tryd.ntmps26
  go_wp2_with fail
  refine UN.out.mono ?_; rintro e1 w1 ⟨v1, rfl, hO1, h1⟩
  obtain ⟨A1, c1, rfl, hx1, hs1, hy1⟩ := hO1.form
  clear hO1 hx1 hs1 hy1
  have hW1 : Within w w1 := Within.trans ((Within.refl w).alloc _) h1
  go_wp2
  go_ret
  exact ⟨rfl, (by repeat (first | with_reducible exact Within.refl _ | with_reducible assumption | with_reducible refine Within.alloc ?_ _ | with_reducible refine Within.drew ?_ | with_reducible refine Within.drewN ?_ _ | with_reducible refine Within.setCell ?_ (by first | (simp; done) | (simp; omega)) _ | with_reducible refine Within.trans ?_ (by assumption)))⟩

set_option maxRecDepth 100000 in
set_option maxHeartbeats 1000000 in
theorem jcheck_read_no (A : Option Addr) (c : Nat) (d : List Nat) (hb : Bytes d) (hc : d.length ≤ c) (h2 : ¬ 1048576 < d.length) (hz : unpackE pf d ≠ 0) (w : World) (hT : FmS w) (hr : SlAt w A (u8v d)) : Calls Tryd.prog 26 #[.agg #[.int .i64 1, .slice A d.length c]] w fun e w' => e = .returned (.int .i64 220) ∧ Within w w' := by
  have UN := Lib.hid (Unpack_any A c d hb (by omega) hc (w.alloc (.cells #[.int .i64 1, .slice A d.length c] 50)) (hT.of ((Within.refl w).alloc _)) (hr.of ((Within.refl w).alloc _)))
  obtain ⟨E, hE⟩ : ∃ E, E = unpackE pf d := ⟨_, rfl⟩
  rw [← hE] at UN hz
  obtain ⟨rd, hrd⟩ : ∃ rd, rd = rdOf d := ⟨_, rfl⟩
  rw [← hrd] at UN
  clear hE hrd hr hb
  clear hT
  have e3 : ¬ 1048576 < d.length := h2
  have hne : (E != 0) = true := bne_iff_ne.2 hz
  go_enter Tryd.func26, Tryd.ntmps26
  go_wp2_with fail
  refine UN.out.mono ?_; rintro e1 w1 ⟨v1, rfl, hO1, h1⟩
  obtain ⟨A1, c1, rfl, hx1, hs1, hy1⟩ := hO1.form
  clear hO1 hx1 hs1 hy1
  have hW1 : Within w w1 := Within.trans ((Within.refl w).alloc _) h1
  go_wp2
  go_ret
  exact ⟨rfl, (by repeat (first | with_reducible exact Within.refl _ | with_reducible assumption | with_reducible refine Within.alloc ?_ _ | with_reducible refine Within.drew ?_ | with_reducible refine Within.drewN ?_ _ | with_reducible refine Within.setCell ?_ (by first | (simp; done) | (simp; omega)) _ | with_reducible refine Within.trans ?_ (by assumption)))⟩

set_option maxRecDepth 100000 in
set_option maxHeartbeats 1000000 in
theorem jcheck_note (A : Option Addr) (c : Nat) (d : List Nat) (hb : Bytes d) (h2 : ¬ 1048576 < d.length) (w : World) (hr : SlAt w A (u8v d)) : Calls Tryd.prog 26 #[.agg #[.int .i64 3, .slice A d.length c]] w fun e w' => e = .returned (.int .i64 (if d.all noteOk = true then 0 else 220)) ∧ Within w w' := by
  obtain ⟨RV, hRV⟩ : ∃ RV : Int, RV = (if d.all noteOk = true then 0 else 220) := ⟨_, rfl⟩
  rw [← hRV]
  have HRV := Lib.hid hRV; clear hRV
  have e3 : ¬ 1048576 < d.length := h2
  have hl := Nat.le_of_not_lt h2
  have HB := Lib.hid hb; have HR := Lib.hid (hr.of ((Within.refl w).alloc (.cells #[.int .i64 3, .slice A d.length c] 50))); clear hr hb
  have FA : Hid (∀ k, k < d.length → noteOk (d.getD k 0) = false → d.all noteOk = false) := Lib.hid (fun k hk h => all_false hk h)
  have AS : Hid (∀ k, k < d.length → (d.take (k + 1)).all noteOk = ((d.take k).all noteOk && noteOk (d.getD k 0))) := Lib.hid (fun k hk => all_snoc hk)
  go_enter Tryd.func26, Tryd.ntmps26
  go_wp2
  go_loop [35] (fun iv => ∃ k : Nat, k ≤ d.length ∧ iv = .int .i64 (k : Int) ∧ (d.take k).all noteOk = true) (fun iv => d.length - (intOf iv).toNat)
  case atStart => exact ⟨0, Nat.zero_le _, rfl, rfl⟩
  case round =>
    obtain ⟨k, hk, rfl, hall⟩ := hrel
    by_cases hlt : k < d.length
    · obtain ⟨ad, rfl, hblk, hcx⟩ := HR.out.at hlt
      have hfa := FA.out k hlt
      have has := AS.out k hlt
      obtain ⟨x, hx⟩ : ∃ x, x = d.getD k 0 := ⟨_, rfl⟩
      rw [← hx] at hcx hfa has
      have hxl : x < 256 := by rw [hx]; exact HB.out.at hlt
      have HFA := Lib.hid hfa; have HAS := Lib.hid has; have HALL := Lib.hid hall; clear hx hfa has hall
      have k1 : (k : Int) < (d.length : Int) := by omega
      by_cases x1 : x < 32
      · have q1 : decide ((x : Int) < 32) = true := decide_eq_true (by omega)
        have hno : noteOk x = false := by unfold noteOk; exact decide_eq_false (by omega)
        have HV := Lib.hid (HFA.out hno); clear hno
        go_wp2
        go_ret
        exact ⟨by (rw [HRV.out, if_neg (by rw [HV.out]; decide)] <;> rfl), (by repeat (first | with_reducible exact Within.refl _ | with_reducible assumption | with_reducible refine Within.alloc ?_ _ | with_reducible refine Within.drew ?_ | with_reducible refine Within.drewN ?_ _ | with_reducible refine Within.setCell ?_ (by first | (simp; done) | (simp; omega)) _ | with_reducible refine Within.trans ?_ (by assumption)))⟩
      · by_cases x2 : 126 < x
        · have q1 : decide ((x : Int) < 32) = false := decide_eq_false (by omega)
          have q2 : decide ((x : Int) > 126) = true := decide_eq_true (by omega)
          have hno : noteOk x = false := by unfold noteOk; exact decide_eq_false (by omega)
          have HV := Lib.hid (HFA.out hno); clear hno
          go_wp2
          go_ret
          exact ⟨by (rw [HRV.out, if_neg (by rw [HV.out]; decide)] <;> rfl), (by repeat (first | with_reducible exact Within.refl _ | with_reducible assumption | with_reducible refine Within.alloc ?_ _ | with_reducible refine Within.drew ?_ | with_reducible refine Within.drewN ?_ _ | with_reducible refine Within.setCell ?_ (by first | (simp; done) | (simp; omega)) _ | with_reducible refine Within.trans ?_ (by assumption)))⟩
        · have q1 : decide ((x : Int) < 32) = false := decide_eq_false (by omega)
          have q2 : decide ((x : Int) > 126) = false := decide_eq_false (by omega)
          have hyes : noteOk x = true := by unfold noteOk; exact decide_eq_true (by omega)
          have HV := Lib.hid hyes; clear hyes
          go_wp2
          go_round
          case rel => exact ⟨k + 1, hlt, by go_num, by rw [HAS.out, HALL.out, HV.out]; rfl⟩
          case measure => simp [intOf]; omega
    · obtain rfl : k = d.length := by omega
      rw [List.take_of_length_le (Nat.le_refl _)] at hall
      have HV := Lib.hid hall; clear hall
      go_wp2
      go_ret
      exact ⟨by (rw [HRV.out, if_pos HV.out] <;> rfl), (by repeat (first | with_reducible exact Within.refl _ | with_reducible assumption | with_reducible refine Within.alloc ?_ _ | with_reducible refine Within.drew ?_ | with_reducible refine Within.drewN ?_ _ | with_reducible refine Within.setCell ?_ (by first | (simp; done) | (simp; omega)) _ | with_reducible refine Within.trans ?_ (by assumption)))⟩

theorem jcheck_any (k : Int) (A : Option Addr) (c : Nat) (d : List Nat) (hb : Bytes d) (hc : d.length ≤ c) (hl : d.length ≤ 1152921504606846976) (w : World) (hT : FmS w) (hr : SlAt w A (u8v d)) : Calls Tryd.prog 26 #[.agg #[.int .i64 k, .slice A d.length c]] w fun e w' => e = .returned (.int .i64 (checkR pf k d)) ∧ Within w w' := by
  by_cases h : k < 1 ∨ 3 < k
  · rw [checkR_kind h]; exact jcheck_kind A c d k h w
  by_cases h2 : 1048576 < d.length
  · rw [checkR_long h h2]; exact jcheck_long A c d k h h2 hl w
  rcases (by omega : k = 1 ∨ k = 2 ∨ k = 3) with rfl | rfl | rfl
  · rw [checkR_read h2]
    by_cases hz : unpackE pf d = 0
    · rw [if_pos hz]; exact jcheck_read A c d hb hc h2 hz w hT hr
    · rw [if_neg hz]; exact jcheck_read_no A c d hb hc h2 hz w hT hr
  · rw [checkR_mark h2]; exact jcheck_mark A c d h2 w
  · rw [checkR_note h2]; exact jcheck_note A c d hb h2 w hr

set_option maxRecDepth 100000 in
set_option maxHeartbeats 1000000 in
theorem Rjcheck_kind (A : Option Addr) (c : Nat) (d : List Nat) (k : Int) (h : k < 1 ∨ 3 < k) (w : World)  : Calls Tryd.prog 27 #[.agg #[.int .i64 k, .slice A d.length c]] w fun e w' => e = .returned (.int .i64 220) ∧ Within w w' := by
  have hk : (decide (k < 1) || decide (k > 3)) = true := by rcases h with h | h; simp [h]; simp [h]
  cases e1 : decide (k < 1) <;> cases e2 : decide (k > 3) <;> simp only [e1, e2, Bool.or_false, Bool.false_eq_true] at hk
  all_goals
    clear h hk
    go_enter Tryd.func27, Tryd.ntmps27
    go_wp2
    go_ret
    exact ⟨rfl, (by repeat (first | with_reducible exact Within.refl _ | with_reducible assumption | with_reducible refine Within.alloc ?_ _ | with_reducible refine Within.drew ?_ | with_reducible refine Within.drewN ?_ _ | with_reducible refine Within.setCell ?_ (by first | (simp; done) | (simp; omega)) _ | with_reducible refine Within.trans ?_ (by assumption)))⟩

set_option maxRecDepth 100000 in
set_option maxHeartbeats 1000000 in
theorem Rjcheck_long (A : Option Addr) (c : Nat) (d : List Nat) (k : Int) (h : ¬ (k < 1 ∨ 3 < k)) (h2 : 1048576 < d.length) (hl : d.length ≤ 1152921504606846976) (w : World)  : Calls Tryd.prog 27 #[.agg #[.int .i64 k, .slice A d.length c]] w fun e w' => e = .returned (.int .i64 2) ∧ Within w w' := by
  have e1 : decide (k < 1) = false := decide_eq_false (by omega)
  have e2 : decide (k > 3) = false := decide_eq_false (by omega)
  have e3 : 1048576 < d.length := h2
  have HL := Lib.hid hl
  clear h
  go_enter Tryd.func27, Tryd.ntmps27
  go_wp2
  go_ret
  exact ⟨rfl, (by repeat (first | with_reducible exact Within.refl _ | with_reducible assumption | with_reducible refine Within.alloc ?_ _ | with_reducible refine Within.drew ?_ | with_reducible refine Within.drewN ?_ _ | with_reducible refine Within.setCell ?_ (by first | (simp; done) | (simp; omega)) _ | with_reducible refine Within.trans ?_ (by assumption)))⟩

set_option maxRecDepth 100000 in
set_option maxHeartbeats 1000000 in
theorem Rjcheck_mark (A : Option Addr) (c : Nat) (d : List Nat) (h2 : ¬ 1048576 < d.length) (w : World)  : Calls Tryd.prog 27 #[.agg #[.int .i64 2, .slice A d.length c]] w fun e w' => e = .returned (.int .i64 0) ∧ Within w w' := by
  have e3 : ¬ 1048576 < d.length := h2
  have e0 : (0 : Int) ≤ (d.length : Int) := by omega
  go_enter Tryd.func27, Tryd.ntmps27
  go_wp2
  go_loop [5] (fun iv => iv = .int .i64 0) (fun _ => 0)
  case atStart => rfl
  case round =>
    obtain rfl := hrel
    rcases Nat.eq_zero_or_pos d.length with h0 | h0
    · rw [h0]
      go_wp2
      go_ret
      exact ⟨rfl, (by repeat (first | with_reducible exact Within.refl _ | with_reducible assumption | with_reducible refine Within.alloc ?_ _ | with_reducible refine Within.drew ?_ | with_reducible refine Within.drewN ?_ _ | with_reducible refine Within.setCell ?_ (by first | (simp; done) | (simp; omega)) _ | with_reducible refine Within.trans ?_ (by assumption)))⟩
    · have h1 : (0 : Int) < (d.length : Int) := by omega
      go_wp2
      go_ret
      exact ⟨rfl, (by repeat (first | with_reducible exact Within.refl _ | with_reducible assumption | with_reducible refine Within.alloc ?_ _ | with_reducible refine Within.drew ?_ | with_reducible refine Within.drewN ?_ _ | with_reducible refine Within.setCell ?_ (by first | (simp; done) | (simp; omega)) _ | with_reducible refine Within.trans ?_ (by assumption)))⟩

set_option maxRecDepth 100000 in
set_option maxHeartbeats 1000000 in
theorem Rjcheck_read (A : Option Addr) (c : Nat) (d : List Nat) (hb : Bytes d) (hc : d.length ≤ c) (h2 : ¬ 1048576 < d.length) (hz : unpackE pf d = 0) (w : World) (hr : SlAt w A (u8v d)) : Calls Tryd.prog 27 #[.agg #[.int .i64 1, .slice A d.length c]] w fun e w' => e = .returned (.int .i64 0) ∧ Within w w' := by
  have UN := Lib.hid (Runpack_any A c d hb (by omega) hc (w.alloc (.cells #[.int .i64 1, .slice A d.length c] 50)) (hr.of ((Within.refl w).alloc _)))
  obtain ⟨E, hE⟩ : ∃ E, E = unpackE pf d := ⟨_, rfl⟩
  rw [← hE] at UN hz
  obtain ⟨rd, hrd⟩ : ∃ rd, rd = rdOf d := ⟨_, rfl⟩
  rw [← hrd] at UN
  clear hE hrd hr hb
  have e3 : ¬ 1048576 < d.length := h2
  subst hz
  go_enter Tryd.func27, Tryd.ntmps27
  go_wp2_with fail
  refine UN.out.mono ?_; rintro e1 w1 ⟨v1, rfl, hO1, h1⟩
  obtain ⟨A1, c1, rfl, hx1, hs1, hy1⟩ := hO1.form
  clear hO1 hx1 hs1 hy1
  have hW1 : Within w w1 := Within.trans ((Within.refl w).alloc _) h1
  have k0 : w1.cell? ⟨w.heap.size, 0, none⟩ = some (.int .i64 1) := (h1.cells _ _ (by simp)).trans (by simp)
  have k1 : w1.cell? ⟨w.heap.size, 1, none⟩ = some (.slice A d.length c) := (h1.cells _ _ (by simp)).trans (by simp)
  have kl : w.heap.size < w1.heap.size := World.block_lt_of_cell? _ _ k0
  have kn : ¬ w.heap.size = w1.heap.size := by omega
  go_wp2
  go_loop [5] (fun iv => iv = .int .i64 0) (fun _ => 0)
  case atStart => rfl
  case round =>
    obtain rfl := hrel
    rcases Nat.eq_zero_or_pos d.length with h0 | h0
    · rw [h0] at k1 ⊢
      go_wp2
      go_ret
      exact ⟨rfl, (by repeat (first | with_reducible exact Within.refl _ | with_reducible assumption | with_reducible refine Within.alloc ?_ _ | with_reducible refine Within.drew ?_ | with_reducible refine Within.drewN ?_ _ | with_reducible refine Within.setCell ?_ (by first | (simp; done) | (simp; omega)) _ | with_reducible refine Within.trans ?_ (by assumption)))⟩
    · have h1' : (0 : Int) < (d.length : Int) := by omega
      go_wp2
      go_ret
      exact ⟨rfl, (by repeat (first | with_reducible exact Within.refl _ | with_reducible assumption | with_reducible refine Within.alloc ?_ _ | with_reducible refine Within.drew ?_ | with_reducible refine Within.drewN ?_ _ | with_reducible refine Within.setCell ?_ (by first | (simp; done) | (simp; omega)) _ | with_reducible refine Within.trans ?_ (by assumption)))⟩

set_option maxRecDepth 100000 in
set_option maxHeartbeats 1000000 in
theorem Rjcheck_read_no (A : Option Addr) (c : Nat) (d : List Nat) (hb : Bytes d) (hc : d.length ≤ c) (h2 : ¬ 1048576 < d.length) (hz : unpackE pf d ≠ 0) (w : World) (hr : SlAt w A (u8v d)) : Calls Tryd.prog 27 #[.agg #[.int .i64 1, .slice A d.length c]] w fun e w' => e = .returned (.int .i64 220) ∧ Within w w' := by
  have UN := Lib.hid (Runpack_any A c d hb (by omega) hc (w.alloc (.cells #[.int .i64 1, .slice A d.length c] 50)) (hr.of ((Within.refl w).alloc _)))
  obtain ⟨E, hE⟩ : ∃ E, E = unpackE pf d := ⟨_, rfl⟩
  rw [← hE] at UN hz
  obtain ⟨rd, hrd⟩ : ∃ rd, rd = rdOf d := ⟨_, rfl⟩
  rw [← hrd] at UN
  clear hE hrd hr hb
  have e3 : ¬ 1048576 < d.length := h2
  have hne : (E != 0) = true := bne_iff_ne.2 hz
  go_enter Tryd.func27, Tryd.ntmps27
  go_wp2_with fail
  refine UN.out.mono ?_; rintro e1 w1 ⟨v1, rfl, hO1, h1⟩
  obtain ⟨A1, c1, rfl, hx1, hs1, hy1⟩ := hO1.form
  clear hO1 hx1 hs1 hy1
  have hW1 : Within w w1 := Within.trans ((Within.refl w).alloc _) h1
  go_wp2
  go_ret
  exact ⟨rfl, (by repeat (first | with_reducible exact Within.refl _ | with_reducible assumption | with_reducible refine Within.alloc ?_ _ | with_reducible refine Within.drew ?_ | with_reducible refine Within.drewN ?_ _ | with_reducible refine Within.setCell ?_ (by first | (simp; done) | (simp; omega)) _ | with_reducible refine Within.trans ?_ (by assumption)))⟩

set_option maxRecDepth 100000 in
set_option maxHeartbeats 1000000 in
theorem Rjcheck_note (A : Option Addr) (c : Nat) (d : List Nat) (hb : Bytes d) (h2 : ¬ 1048576 < d.length) (w : World) (hr : SlAt w A (u8v d)) : Calls Tryd.prog 27 #[.agg #[.int .i64 3, .slice A d.length c]] w fun e w' => e = .returned (.int .i64 (if d.all noteOk = true then 0 else 220)) ∧ Within w w' := by
  obtain ⟨RV, hRV⟩ : ∃ RV : Int, RV = (if d.all noteOk = true then 0 else 220) := ⟨_, rfl⟩
  rw [← hRV]
  have HRV := Lib.hid hRV; clear hRV
  have e3 : ¬ 1048576 < d.length := h2
  have hl := Nat.le_of_not_lt h2
  have HB := Lib.hid hb; have HR := Lib.hid (hr.of ((Within.refl w).alloc (.cells #[.int .i64 3, .slice A d.length c] 50))); clear hr hb
  have FA : Hid (∀ k, k < d.length → noteOk (d.getD k 0) = false → d.all noteOk = false) := Lib.hid (fun k hk h => all_false hk h)
  have AS : Hid (∀ k, k < d.length → (d.take (k + 1)).all noteOk = ((d.take k).all noteOk && noteOk (d.getD k 0))) := Lib.hid (fun k hk => all_snoc hk)
  go_enter Tryd.func27, Tryd.ntmps27
  go_wp2
  go_loop [5] (fun iv => ∃ k : Nat, k ≤ d.length ∧ iv = .int .i64 (k : Int) ∧ (d.take k).all noteOk = true) (fun iv => d.length - (intOf iv).toNat)
  case atStart => exact ⟨0, Nat.zero_le _, rfl, rfl⟩
  case round =>
    obtain ⟨k, hk, rfl, hall⟩ := hrel
    by_cases hlt : k < d.length
    · obtain ⟨ad, rfl, hblk, hcx⟩ := HR.out.at hlt
      have hfa := FA.out k hlt
      have has := AS.out k hlt
      obtain ⟨x, hx⟩ : ∃ x, x = d.getD k 0 := ⟨_, rfl⟩
      rw [← hx] at hcx hfa has
      have hxl : x < 256 := by rw [hx]; exact HB.out.at hlt
      have HFA := Lib.hid hfa; have HAS := Lib.hid has; have HALL := Lib.hid hall; clear hx hfa has hall
      have k1 : (k : Int) < (d.length : Int) := by omega
      by_cases x1 : x < 32
      · have q1 : decide ((x : Int) < 32) = true := decide_eq_true (by omega)
        have hno : noteOk x = false := by unfold noteOk; exact decide_eq_false (by omega)
        have HV := Lib.hid (HFA.out hno); clear hno
        go_wp2
        go_ret
        exact ⟨by (rw [HRV.out, if_neg (by rw [HV.out]; decide)] <;> rfl), (by repeat (first | with_reducible exact Within.refl _ | with_reducible assumption | with_reducible refine Within.alloc ?_ _ | with_reducible refine Within.drew ?_ | with_reducible refine Within.drewN ?_ _ | with_reducible refine Within.setCell ?_ (by first | (simp; done) | (simp; omega)) _ | with_reducible refine Within.trans ?_ (by assumption)))⟩
      · by_cases x2 : 126 < x
        · have q1 : decide ((x : Int) < 32) = false := decide_eq_false (by omega)
          have q2 : decide ((x : Int) > 126) = true := decide_eq_true (by omega)
          have hno : noteOk x = false := by unfold noteOk; exact decide_eq_false (by omega)
          have HV := Lib.hid (HFA.out hno); clear hno
          go_wp2
          go_ret
          exact ⟨by (rw [HRV.out, if_neg (by rw [HV.out]; decide)] <;> rfl), (by repeat (first | with_reducible exact Within.refl _ | with_reducible assumption | with_reducible refine Within.alloc ?_ _ | with_reducible refine Within.drew ?_ | with_reducible refine Within.drewN ?_ _ | with_reducible refine Within.setCell ?_ (by first | (simp; done) | (simp; omega)) _ | with_reducible refine Within.trans ?_ (by assumption)))⟩
        · have q1 : decide ((x : Int) < 32) = false := decide_eq_false (by omega)
          have q2 : decide ((x : Int) > 126) = false := decide_eq_false (by omega)
          have hyes : noteOk x = true := by unfold noteOk; exact decide_eq_true (by omega)
          have HV := Lib.hid hyes; clear hyes
          go_wp2
          go_round
          case rel => exact ⟨k + 1, hlt, by go_num, by rw [HAS.out, HALL.out, HV.out]; rfl⟩
          case measure => simp [intOf]; omega
    · obtain rfl : k = d.length := by omega
      rw [List.take_of_length_le (Nat.le_refl _)] at hall
      have HV := Lib.hid hall; clear hall
      go_wp2
      go_ret
      exact ⟨by (rw [HRV.out, if_pos HV.out] <;> rfl), (by repeat (first | with_reducible exact Within.refl _ | with_reducible assumption | with_reducible refine Within.alloc ?_ _ | with_reducible refine Within.drew ?_ | with_reducible refine Within.drewN ?_ _ | with_reducible refine Within.setCell ?_ (by first | (simp; done) | (simp; omega)) _ | with_reducible refine Within.trans ?_ (by assumption)))⟩

theorem Rjcheck_any (k : Int) (A : Option Addr) (c : Nat) (d : List Nat) (hb : Bytes d) (hc : d.length ≤ c) (hl : d.length ≤ 1152921504606846976) (w : World) (hr : SlAt w A (u8v d)) : Calls Tryd.prog 27 #[.agg #[.int .i64 k, .slice A d.length c]] w fun e w' => e = .returned (.int .i64 (checkR pf k d)) ∧ Within w w' := by
  by_cases h : k < 1 ∨ 3 < k
  · rw [checkR_kind h]; exact Rjcheck_kind A c d k h w
  by_cases h2 : 1048576 < d.length
  · rw [checkR_long h h2]; exact Rjcheck_long A c d k h h2 hl w
  rcases (by omega : k = 1 ∨ k = 2 ∨ k = 3) with rfl | rfl | rfl
  · rw [checkR_read h2]
    by_cases hz : unpackE pf d = 0
    · rw [if_pos hz]; exact Rjcheck_read A c d hb hc h2 hz w hr
    · rw [if_neg hz]; exact Rjcheck_read_no A c d hb hc h2 hz w hr
  · rw [checkR_mark h2]; exact Rjcheck_mark A c d h2 w
  · rw [checkR_note h2]; exact Rjcheck_note A c d hb h2 w hr

end Go.Proofs.YtpmjlaiafgbjgaaDoor
end

section
namespace Go.Proofs.YtpmjlaiafgbjgaaDoor
open Go.RowKit

theorem u8v_toArray (l : List Nat) : (u8v l).toArray.size = l.length := by unfold u8v; simp
/-- a block of bytes written out is a row of the call's own -/
theorem OwnB.lit (w : World) (base : Nat) (hb : base ≤ w.heap.size) (l : List Nat) (hl : l.length ≤ 1048576) : OwnB (w.alloc (.cells (u8v l).toArray 5)) base (.slice (some ⟨w.heap.size, 0, none⟩) l.length l.length) l := by
  have h := World.ownsRow_lit (base := base) (e := 5) (size := 1) w (u8v l).toArray l.length hb (by unfold maxLen; omega) (by rw [u8v_toArray]; omega)
  unfold OwnB
  simpa using h

set_option maxRecDepth 100000 in
set_option maxHeartbeats 1000000 in
theorem Rlink_any (n : Nat) (hn : n < 4294967296) (A : Option Addr) (c : Nat) (l : List Nat) (hb : Bytes l) (hl : l.length ≤ 70368744177664) (w : World) (hr : SlAt w A (u8v l)) : Calls Tryd.prog 66 #[.int .u32 (n : Int), .slice A l.length c] w fun e w' => e = .returned (.int .u32 (linkV n l : Int)) ∧ Within w w' := by
  have W1 := Lib.hid (Rput4 w.heap.size (.slice none 0 0) [] n (by omega) (by simp) w (Nat.le_refl _) (OwnB.nil_ _ _))
  have HR := Lib.hid hr; have HB := Lib.hid hb; clear hr hb
  have cv : IntKind.u64.wrap (n : Int) = (n : Int) := by rw [IntKind.wrap_u64]; omega
  go_enter Tryd.func66, Tryd.ntmps66
  go_wp2_with fail
  refine W1.out.mono ?_; rintro e1 w1 ⟨v1, rfl, hO1, hB1⟩
  have hW1 : Within w w1 := hB1
  rw [List.nil_append] at hO1
  obtain ⟨v2, w2, hrun, hO2, hB2⟩ := run_app_u8 w1 w.heap.size v1 (leBytes 4 n) l hO1 A c (HR.out.of hW1) (by rw [leBytes_len]; omega) hW1.size
  obtain ⟨A1, c1, rfl, _, _, _⟩ := hO1.form
  obtain ⟨A2, c2, rfl, hc2, hs2, _⟩ := hO2.form
  have SU := Lib.hid (Rsum_any A2 c2 (leBytes 4 n ++ l) ((leBytes_bytes _ _).append HB.out) (by rw [List.length_append, leBytes_len]; omega) w2 hs2)
  have hW2 : Within w w2 := Below.trans hW1 hB2
  have RUN := Lib.hid hrun; have HW2 := Lib.hid hW2; clear hrun hW2 hO1 hO2 hs2 hc2 hB1 hB2 hW1
  obtain ⟨N, hN⟩ : ∃ N, (leBytes 4 n ++ l).length = N := ⟨_, rfl⟩
  rw [hN] at SU RUN
  obtain ⟨M, hM⟩ : ∃ M, (leBytes 4 n).length = M := ⟨_, rfl⟩
  rw [hM] at RUN ⊢
  clear hN hM
  go_wp2_with (at_builtin; refine wpList_append_run rfl (.tmp 7) (.tmp 8) 22 rfl _ _ rfl rfl RUN.out ?_)
  refine SU.out.mono ?_; rintro e3 w3 ⟨rfl, rfl⟩
  go_wp2
  go_ret
  exact ⟨rfl, HW2.out⟩

set_option maxRecDepth 100000 in
set_option maxHeartbeats 1000000 in
theorem Magic_any (w : World) : Calls Tryd.prog 45 #[] w fun e w' => ∃ v, e = .returned v ∧ OwnB w' w.heap.size v magicV ∧ Within w w' := by
  have HL := Lib.hid (OwnB.lit w w.heap.size (Nat.le_refl _) magicV (by decide))
  go_enter Tryd.func45, Tryd.ntmps45
  go_wp2
  go_ret
  exact ⟨_, rfl, HL.out, (Within.refl w).alloc _⟩

set_option maxRecDepth 100000 in
set_option maxHeartbeats 1000000 in
theorem start_any (w : World) : Calls Tryd.prog 46 #[] w fun e w' => e = .returned (.int .u32 (startV : Int)) ∧ Within w w' := by
  go_enter Tryd.func46, Tryd.ntmps46
  go_wp2_with fail
  refine (Magic_any w).mono ?_; rintro e1 w1 ⟨v1, rfl, hO1, h1⟩
  obtain ⟨A1, c1, rfl, hc1, hs1, _⟩ := hO1.form
  have SU := Lib.hid (Rsum_any A1 c1 magicV (by intro x hx; revert x; decide) (by decide) w1 hs1)
  clear hO1 hs1 hc1
  have e8 : magicV.length = 8 := rfl
  rw [e8] at SU ⊢
  clear e8
  go_wp2_with fail
  refine SU.out.mono ?_; rintro e2 w2 ⟨rfl, rfl⟩
  go_wp2
  go_ret
  exact ⟨rfl, h1⟩

set_option maxRecDepth 100000 in
set_option maxHeartbeats 1000000 in
theorem lay_any (r : Rec) (n last : Nat) (D : Option Addr) (c : Nat) (hk : r.kind < 256) (hn : n < 4294967296) (hl : last < 4294967296) (hd : r.data.length ≤ 1048576) (hb : Bytes r.data) (w : World) (hr : SlAt w D (u8v r.data)) : Calls Tryd.prog 63 #[.agg #[.int .i64 (r.kind : Int), .slice D r.data.length c], .int .i64 (n : Int), .int .u32 (last : Int)] w fun e w' => ∃ v, e = .returned (.tuple #[v, .int .u32 (nextV r n last : Int)]) ∧ OwnB w' w.heap.size v (layV r n last) ∧ Within w w' := by
  have hAb : Bytes (layA r n) := by
    unfold layA; refine Bytes.append (Bytes.append ?_ (leBytes_bytes _ _)) (leBytes_bytes _ _)
    intro x hx; rw [List.mem_singleton] at hx; omega
  have hBb : Bytes (layB r n last) := by unfold layB; exact Bytes.append (Bytes.append hAb (leBytes_bytes _ _)) hb
  have hAl := layA_len r n
  have hBl := layB_len r n last
  have hx1 := linkV_lt (last := last) hAb
  have hx2 : nextV r n last < 4294967296 := linkV_lt hBb
  have HAd : Hid (layA r n = [r.kind] ++ leBytes 4 n ++ leBytes 4 r.data.length) := Lib.hid rfl
  have HBd : Hid (layB r n last = layA r n ++ leBytes 4 (linkV last (layA r n)) ++ r.data) := Lib.hid rfl
  have HVd : Hid (layV r n last = layB r n last ++ leBytes 4 (nextV r n last)) := Lib.hid rfl
  have HNd : Hid (nextV r n last = linkV last (layB r n last)) := Lib.hid rfl
  obtain ⟨LA, hLA⟩ : ∃ x, x = layA r n := ⟨_, rfl⟩
  rw [← hLA] at HAd HBd hAb hAl hx1
  clear hLA
  obtain ⟨LB, hLB⟩ : ∃ x, x = layB r n last := ⟨_, rfl⟩
  rw [← hLB] at HBd HVd hBb hBl HNd
  clear hLB
  obtain ⟨LV, hLV⟩ : ∃ x, x = layV r n last := ⟨_, rfl⟩
  rw [← hLV] at HVd ⊢
  clear hLV
  obtain ⟨nx, hnx⟩ : ∃ x, x = nextV r n last := ⟨_, rfl⟩
  rw [← hnx] at HVd HNd hx2 ⊢
  clear hnx
  obtain ⟨kd, hK⟩ : ∃ kd, kd = r.kind := ⟨_, rfl⟩
  rw [← hK] at hk HAd ⊢
  clear hK
  obtain ⟨dd, hdd⟩ : ∃ dd, dd = r.data := ⟨_, rfl⟩
  rw [← hdd] at hd hb hr HAd HBd hBl ⊢
  clear hdd
  obtain ⟨N, hN⟩ : ∃ N, dd.length = N := ⟨_, rfl⟩
  rw [hN] at hd HAd hBl ⊢
  have HN := Lib.hid hN
  clear hN
  obtain ⟨lk, hlk⟩ : ∃ x, x = linkV last LA := ⟨_, rfl⟩
  rw [← hlk] at HBd hx1
  have HLK := Lib.hid hlk
  clear hlk
  have HAB := Lib.hid hAb; have HBB := Lib.hid hBb; have HR := Lib.hid hr; have HDB := Lib.hid hb; clear hAb hBb hr hb
  have ck : IntKind.u8.wrap (kd : Int) = (kd : Int) := by rw [IntKind.wrap_u8]; omega
  have cn : IntKind.u32.wrap (n : Int) = (n : Int) := by rw [IntKind.wrap_u32]; omega
  have cN : IntKind.u32.wrap (N : Int) = (N : Int) := by rw [IntKind.wrap_u32]; omega
  obtain ⟨W0, hW0⟩ : ∃ W0, W0 = w.alloc (.cells #[.int .i64 (kd : Int), .slice D N c] 50) := ⟨_, rfl⟩
  have k0 : W0.cell? ⟨w.heap.size, 0, none⟩ = some (.int .i64 (kd : Int)) := by rw [hW0]; simp
  have k1 : W0.cell? ⟨w.heap.size, 1, none⟩ = some (.slice D N c) := by rw [hW0]; simp
  have kb : w.heap.size < W0.heap.size := by rw [hW0]; simp
  have hww : Within w W0 := by rw [hW0]; exact (Within.refl w).alloc _
  have HWW := Lib.hid hww; clear hww
  go_enter Tryd.func63, Tryd.ntmps63
  go_wp2_with fail
  rw [← hW0]
  clear hW0
  refine wp_region_schG (fun W => W.cell? ⟨w.heap.size, 0, none⟩ = some (.int .i64 (kd : Int)) ∧ W.cell? ⟨w.heap.size, 1, none⟩ = some (.slice D N c) ∧ w.heap.size < W.heap.size ∧ W = W0) 12 (.firm 0 (.firm 1 (.firm 2 (.firm 4 (.firm 5 (.firm 7 (.firm 8 (.firm 9 (.firm 10 (.one 3 (.one 6 (.one 11 (.one 12 .nil))))))))))))) (by kernel_rfl) (by kernel_rfl) ⟨k0, k1, kb, rfl⟩ ?_
  rintro w0 ⟨k0, k1, kb, rfl⟩
  try simp only [Act.put, List.setIfInBounds_toArray, List.set_cons_zero, List.set_cons_succ]
  iterate 9
    apply sch_firm rfl rfl (by repeat (first | with_reducible exact Within.refl _ | with_reducible assumption | with_reducible refine Within.alloc ?_ _ | with_reducible refine Within.drew ?_ | with_reducible refine Within.drewN ?_ _ | with_reducible refine Within.setCell ?_ (by first | (simp; done) | (simp; omega)) _ | with_reducible refine Within.trans ?_ (by assumption)))
    · intro wq hq
      have hcq := hq.cells
      clear hq
      go_simp
      rfl
    try simp only [Act.put, List.setIfInBounds_toArray, List.set_cons_zero, List.set_cons_succ]
  refine sch_one rfl rfl (fun K hK => ?_)
  go_simp
  refine hK _ _ (fun _ => (by repeat (first | with_reducible exact Within.refl _ | with_reducible assumption | with_reducible refine Within.alloc ?_ _ | with_reducible refine Within.drew ?_ | with_reducible refine Within.drewN ?_ _ | with_reducible refine Within.setCell ?_ (by first | (simp; done) | (simp; omega)) _ | with_reducible refine Within.trans ?_ (by assumption)))) ?_
  clear hK K
  try simp only [Act.put, List.setIfInBounds_toArray, List.set_cons_zero, List.set_cons_succ]
  refine sch_one rfl rfl (fun K hK => ?_)
  go_simp
  have hO3 := OwnB.lit w0.drew w0.heap.size (Nat.le_refl _) [kd] (by simp)
  refine (word_any w0.heap.size _ [kd] n hn (by simp) _ (by simp) (by exact hO3)).mono ?_; rintro e6 w6 ⟨v6, rfl, hO6, hB6⟩
  have hX6 : Within w0 w6 := Below.trans (((Within.refl w0).drew).alloc _) hB6
  obtain ⟨A6, c6, rfl, hx6, hy6, hz6⟩ := hO6.form
  clear hx6 hy6 hz6 hO3
  refine hK _ _ (fun _ => (by repeat (first | with_reducible exact Within.refl _ | with_reducible assumption | with_reducible refine Within.alloc ?_ _ | with_reducible refine Within.drew ?_ | with_reducible refine Within.drewN ?_ _ | with_reducible refine Within.setCell ?_ (by first | (simp; done) | (simp; omega)) _ | with_reducible refine Within.trans ?_ (by assumption)))) ?_
  clear hK K
  try simp only [Act.put, List.setIfInBounds_toArray, List.set_cons_zero, List.set_cons_succ]
  refine sch_one rfl rfl (fun K hK => ?_)
  go_simp
  refine (word_any w0.heap.size _ _ N (by omega) (by rw [List.length_append, leBytes_len]; simp) _ hX6.size hO6).mono ?_; rintro e7 w7 ⟨v7, rfl, hO7, hB7⟩
  have hX7 : Within w0 w7 := Below.trans hX6 hB7
  rw [← HAd.out] at hO7
  obtain ⟨A7, c7, rfl, hc7, hs7, hz7⟩ := hO7.form
  clear hz7
  have hq0 : w7.cell? ⟨w.heap.size, 1, none⟩ = some (.slice D N c) := (hX7.cells _ _ kb).trans k1
  rw [hAl] at hc7 hO7 ⊢
  clear hO6
  refine hK _ _ (fun _ => (by repeat (first | with_reducible exact Within.refl _ | with_reducible assumption | with_reducible refine Within.alloc ?_ _ | with_reducible refine Within.drew ?_ | with_reducible refine Within.drewN ?_ _ | with_reducible refine Within.setCell ?_ (by first | (simp; done) | (simp; omega)) _ | with_reducible refine Within.trans ?_ (by assumption)))) ?_
  clear hK K
  try simp only [Act.put, List.setIfInBounds_toArray, List.set_cons_zero, List.set_cons_succ]
  refine sch_one rfl rfl (fun K hK => ?_)
  go_simp
  refine hK _ _ (fun h => absurd h (by decide)) ?_
  clear hK K
  try simp only [Act.put, List.setIfInBounds_toArray, List.set_cons_zero, List.set_cons_succ]
  refine sch_nil ?_
  have kb7 : w.heap.size < w7.heap.size := Nat.lt_of_lt_of_le kb hX7.size
  have HX7 := Lib.hid (HWW.out.trans hX7); have HBW7 : Hid (w0.heap.size ≤ w7.heap.size) := Lib.hid hX7.size
  have SU := jsum_any last hl A7 c7 LA HAB.out (by omega) w7 hs7
  rw [hAl, ← HLK.out] at SU
  have HSU := Lib.hid SU; have HO7 := Lib.hid hO7; clear SU hO7 hs7 hX7 hB6 hB7 hX6 hc7
  go_wp2_with fail
  refine HSU.out.mono ?_; rintro e8 w8 ⟨rfl, h8⟩
  have HO8 := Lib.hid (HO7.out.of h8)
  go_wp2_with fail
  refine (word_any w0.heap.size _ LA lk hx1 (by omega) _ (Nat.le_trans HBW7.out h8.size) HO8.out).mono ?_; rintro e9 w9 ⟨v9, rfl, hO9, hB9⟩
  have h79 : Below w0.heap.size w7 w9 := Below.trans (Below.mono h8 (HBW7.out)) hB9
  have hX9 : Within w w9 := Below.trans HX7.out (Below.mono h79 HWW.out.size)
  have hq9 : w9.cell? ⟨w.heap.size, 1, none⟩ = some (.slice D N c) := (h79.cell (p := ⟨w.heap.size, 1, none⟩) kb).trans hq0
  have kb9 : w.heap.size < w9.heap.size := World.block_lt_of_cell? _ _ hq9
  obtain ⟨A9, c9, rfl, hx9, hy9, hz9⟩ := hO9.form
  clear hx9 hy9 hz9
  obtain ⟨v10, w10, hrun10, hO10, hB10⟩ := run_app_u8 w9 w0.heap.size _ _ dd hO9 D c (HR.out.of hX9) (by rw [List.length_append, leBytes_len, HN.out]; omega) (Nat.le_trans HBW7.out h79.size)
  rw [← HBd.out] at hO10
  rw [HN.out] at hrun10
  obtain ⟨A10, c10, rfl, hc10, hs10, hz10⟩ := hO10.form
  clear hz10
  rw [hBl] at hc10 hrun10
  have h710 : Below w0.heap.size w7 w10 := h79.trans hB10
  have SU2 := jsum_any last hl A10 c10 LB HBB.out (by omega) w10 hs10
  rw [hBl, ← HNd.out] at SU2
  have HSU2 := Lib.hid SU2; have HO10 := Lib.hid hO10; have RUN10 := Lib.hid hrun10; have H710 := Lib.hid h710; clear SU2 hO10 hrun10 h710 hs10 hO9 hB9 h79 hX9 hB10 hc10
  obtain ⟨n9, hn9⟩ : ∃ n9, (LA ++ leBytes 4 lk).length = n9 := ⟨_, rfl⟩
  rw [hn9] at RUN10 ⊢
  clear hn9
  go_wp2_with (at_builtin; refine wpList_append_run rfl (.tmp 26) (.tmp 28) 22 rfl _ _ rfl rfl RUN10.out ?_)
  refine HSU2.out.mono ?_; rintro e11 w11 ⟨rfl, h11⟩
  have hO11 := HO10.out.of h11
  go_wp2_with fail
  have WD := word_any w0.heap.size _ LB nx hx2 (by omega) _ (Nat.le_trans HBW7.out (Nat.le_trans H710.out.size h11.size)) hO11
  rw [hBl] at WD
  have HWD := Lib.hid WD; clear WD hO11
  refine HWD.out.mono ?_; rintro e12 w12 ⟨v12, rfl, hO12, hB12⟩
  rw [← HVd.out] at hO12
  have h712 : Below w0.heap.size w7 w12 := Below.trans (Below.trans H710.out (Below.mono h11 (Nat.le_trans HBW7.out H710.out.size))) hB12
  have hX12 : Within w w12 := Below.trans HX7.out (Below.mono h712 HWW.out.size)
  have HO12 := Lib.hid (hO12.less HWW.out.size); clear hO12
  obtain ⟨A12, c12, rfl, hx12, hy12, hz12⟩ := HO12.out.form
  clear hx12 hy12 hz12
  go_wp2
  go_ret2
  exact ⟨_, rfl, HO12.out, hX12⟩

set_option maxRecDepth 100000 in
set_option maxHeartbeats 1000000 in
theorem Rlay_any (r : Rec) (n last : Nat) (D : Option Addr) (c : Nat) (hk : r.kind < 256) (hn : n < 4294967296) (hl : last < 4294967296) (hd : r.data.length ≤ 1048576) (hb : Bytes r.data) (w : World) (hr : SlAt w D (u8v r.data)) : Calls Tryd.prog 48 #[.agg #[.int .i64 (r.kind : Int), .slice D r.data.length c], .int .i64 (n : Int), .int .u32 (last : Int)] w fun e w' => ∃ v, e = .returned (.tuple #[v, .int .u32 (nextV r n last : Int)]) ∧ OwnB w' w.heap.size v (layV r n last) ∧ Within w w' := by
  have hAb : Bytes (layA r n) := by
    unfold layA; refine Bytes.append (Bytes.append ?_ (leBytes_bytes _ _)) (leBytes_bytes _ _)
    intro x hx; rw [List.mem_singleton] at hx; omega
  have hBb : Bytes (layB r n last) := by unfold layB; exact Bytes.append (Bytes.append hAb (leBytes_bytes _ _)) hb
  have hAl := layA_len r n
  have hBl := layB_len r n last
  have hx1 := linkV_lt (last := last) hAb
  have hx2 : nextV r n last < 4294967296 := linkV_lt hBb
  have HAd : Hid (layA r n = [r.kind] ++ leBytes 4 n ++ leBytes 4 r.data.length) := Lib.hid rfl
  have HBd : Hid (layB r n last = layA r n ++ leBytes 4 (linkV last (layA r n)) ++ r.data) := Lib.hid rfl
  have HVd : Hid (layV r n last = layB r n last ++ leBytes 4 (nextV r n last)) := Lib.hid rfl
  have HNd : Hid (nextV r n last = linkV last (layB r n last)) := Lib.hid rfl
  obtain ⟨LA, hLA⟩ : ∃ x, x = layA r n := ⟨_, rfl⟩
  rw [← hLA] at HAd HBd hAb hAl hx1
  clear hLA
  obtain ⟨LB, hLB⟩ : ∃ x, x = layB r n last := ⟨_, rfl⟩
  rw [← hLB] at HBd HVd hBb hBl HNd
  clear hLB
  obtain ⟨LV, hLV⟩ : ∃ x, x = layV r n last := ⟨_, rfl⟩
  rw [← hLV] at HVd ⊢
  clear hLV
  obtain ⟨nx, hnx⟩ : ∃ x, x = nextV r n last := ⟨_, rfl⟩
  rw [← hnx] at HVd HNd hx2 ⊢
  clear hnx
  obtain ⟨kd, hK⟩ : ∃ kd, kd = r.kind := ⟨_, rfl⟩
  rw [← hK] at hk HAd ⊢
  clear hK
  obtain ⟨dd, hdd⟩ : ∃ dd, dd = r.data := ⟨_, rfl⟩
  rw [← hdd] at hd hb hr HAd HBd hBl ⊢
  clear hdd
  obtain ⟨N, hN⟩ : ∃ N, dd.length = N := ⟨_, rfl⟩
  rw [hN] at hd HAd hBl ⊢
  have HN := Lib.hid hN
  clear hN
  obtain ⟨lk, hlk⟩ : ∃ x, x = linkV last LA := ⟨_, rfl⟩
  rw [← hlk] at HBd hx1
  have HLK := Lib.hid hlk
  clear hlk
  have HAB := Lib.hid hAb; have HBB := Lib.hid hBb; have HR := Lib.hid hr; have HDB := Lib.hid hb; clear hAb hBb hr hb
  have ck : IntKind.u8.wrap (kd : Int) = (kd : Int) := by rw [IntKind.wrap_u8]; omega
  have cn : IntKind.u64.wrap (n : Int) = (n : Int) := by rw [IntKind.wrap_u64]; omega
  have cN : IntKind.u64.wrap (N : Int) = (N : Int) := by rw [IntKind.wrap_u64]; omega
  have clk : IntKind.u64.wrap (lk : Int) = (lk : Int) := by rw [IntKind.wrap_u64]; omega
  have cnx : IntKind.u64.wrap (nx : Int) = (nx : Int) := by rw [IntKind.wrap_u64]; omega
  obtain ⟨W0, hW0⟩ : ∃ W0, W0 = w.alloc (.cells #[.int .i64 (kd : Int), .slice D N c] 50) := ⟨_, rfl⟩
  have k1 : W0.cell? ⟨w.heap.size, 1, none⟩ = some (.slice D N c) := by rw [hW0]; simp
  have kb : w.heap.size < W0.heap.size := by rw [hW0]; simp
  have hww : Within w W0 := by rw [hW0]; exact (Within.refl w).alloc _
  have k1' : (W0.alloc (.cells #[.int .u8 (kd : Int)] 5)).cell? ⟨w.heap.size, 1, none⟩ = some (.slice D N c) := ((Within.refl W0).alloc _ |>.cells _ _ kb).trans k1
  have hz0 : W0.heap.size = w.heap.size + 1 := by rw [hW0]; simp
  have hO3 : OwnB (W0.alloc (.cells #[.int .u8 (kd : Int)] 5)) W0.heap.size (.slice (some ⟨w.heap.size + 1, 0, none⟩) 1 1) [kd] := by have h3 := OwnB.lit W0 W0.heap.size (Nat.le_refl _) [kd] (by simp); rw [hz0] at h3 ⊢; exact h3
  have HP1 := Lib.hid (Rput4 W0.heap.size _ [kd] n (by omega) (by simp) _ (by simp) hO3)
  have HWW := Lib.hid hww; have HK1 := Lib.hid k1'; clear hww hO3 hz0 k1'
  go_enter Tryd.func48, Tryd.ntmps48
  go_wp2_with fail
  rw [← hW0]
  refine HP1.out.mono ?_; rintro e6 w6 ⟨v6, rfl, hO6, hB6⟩
  have hX6 : Within W0 w6 := Below.trans ((Within.refl W0).alloc _) hB6
  have q6 : w6.cell? ⟨w.heap.size, 1, none⟩ = some (.slice D N c) := (hX6.cells _ _ kb).trans k1
  have kb6 : w.heap.size < w6.heap.size := World.block_lt_of_cell? _ _ q6
  have HP2 := Lib.hid (Rput4 W0.heap.size v6 _ N (by omega) (by rw [List.length_append, leBytes_len]; simp) _ hX6.size hO6)
  obtain ⟨A6, c6, rfl, hx6, hy6, hz6⟩ := hO6.form
  have HX6 := Lib.hid hX6; clear hx6 hy6 hz6 hO6 hB6 hW0 hX6
  obtain ⟨n6, hn6⟩ : ∃ n6, ([kd] ++ leBytes 4 n).length = n6 := ⟨_, rfl⟩
  rw [hn6] at HP2 ⊢
  clear hn6
  go_wp2_with fail
  refine HP2.out.mono ?_; rintro e7 w7 ⟨v7, rfl, hO7, hB7⟩
  have hX7 : Within W0 w7 := Below.trans HX6.out hB7
  rw [← HAd.out] at hO7
  have q7 : w7.cell? ⟨w.heap.size, 1, none⟩ = some (.slice D N c) := (hX7.cells _ _ kb).trans k1
  have kb7 : w.heap.size < w7.heap.size := World.block_lt_of_cell? _ _ q7
  obtain ⟨A7, c7, rfl, hc7, hs7, hz7⟩ := hO7.form
  have SU := Rlink_any last hl A7 c7 LA HAB.out (by omega) w7 hs7
  rw [hAl, ← HLK.out] at SU
  rw [hAl] at hO7 ⊢
  have HSU := Lib.hid SU; have HO7 := Lib.hid hO7; have HX7 := Lib.hid hX7; clear SU hO7 hs7 hz7 hc7 hB7 hX7
  go_wp2_with fail
  refine HSU.out.mono ?_; rintro e8 w8 ⟨rfl, h8⟩
  have HO8 := Lib.hid (HO7.out.of h8)
  have hX8 : Within W0 w8 := HX7.out.trans h8
  have HP3 := Lib.hid (Rput4 W0.heap.size _ LA lk (by omega) (by omega) _ hX8.size HO8.out)
  have HX8 := Lib.hid hX8; clear hX8 h8
  go_wp2_with fail
  refine HP3.out.mono ?_; rintro e9 w9 ⟨v9, rfl, hO9, hB9⟩
  have hX9 : Within W0 w9 := Below.trans HX8.out hB9
  have q9 : w9.cell? ⟨w.heap.size, 1, none⟩ = some (.slice D N c) := (hX9.cells _ _ kb).trans k1
  have kb9 : w.heap.size < w9.heap.size := World.block_lt_of_cell? _ _ q9
  obtain ⟨v10, w10, hrun10, hO10, hB10⟩ := run_app_u8 w9 W0.heap.size _ _ dd hO9 D c (HR.out.of (HWW.out.trans hX9)) (by rw [List.length_append, leBytes_len, HN.out]; omega) hX9.size
  rw [← HBd.out] at hO10
  rw [HN.out] at hrun10
  obtain ⟨A9, c9, rfl, hx9, hy9, hz9⟩ := hO9.form
  obtain ⟨A10, c10, rfl, hc10, hs10, hz10⟩ := hO10.form
  rw [hBl] at hc10 hrun10 hO10
  have hX10 : Within W0 w10 := Below.trans hX9 hB10
  have SU2 := Rlink_any last hl A10 c10 LB HBB.out (by omega) w10 hs10
  rw [hBl, ← HNd.out] at SU2
  have HSU2 := Lib.hid SU2; have HO10 := Lib.hid hO10; have RUN10 := Lib.hid hrun10; have HX10 := Lib.hid hX10; clear SU2 hO10 hrun10 hX10 hs10 hO9 hB9 hX9 hB10 hc10 hx9 hy9 hz9 hz10
  obtain ⟨n9, hn9⟩ : ∃ n9, (LA ++ leBytes 4 lk).length = n9 := ⟨_, rfl⟩
  rw [hn9] at RUN10 ⊢
  clear hn9
  go_wp2_with (at_builtin; refine wpList_append_run rfl (.tmp 30) (.tmp 32) 22 rfl _ _ rfl rfl RUN10.out ?_)
  refine HSU2.out.mono ?_; rintro e11 w11 ⟨rfl, h11⟩
  have HP4 := Rput4 W0.heap.size _ LB nx (by omega) (by omega) _ (Nat.le_trans HX10.out.size h11.size) (HO10.out.of h11)
  rw [← HVd.out] at HP4
  have HP5 := Lib.hid HP4; clear HP4
  have hX11 : Within W0 w11 := HX10.out.trans h11
  have HX11 := Lib.hid hX11; clear hX11 h11
  go_wp2_with fail
  refine HP5.out.mono ?_; rintro e12 w12 ⟨v12, rfl, hO12, hB12⟩
  have hX12 : Within w w12 := HWW.out.trans (Below.trans HX11.out hB12)
  have HO12 := Lib.hid (hO12.less HWW.out.size); clear hO12
  obtain ⟨A12, c12, rfl, hx12, hy12, hz12⟩ := HO12.out.form
  clear hx12 hy12 hz12
  go_wp2
  go_ret2
  exact ⟨_, rfl, HO12.out, hX12⟩

end Go.Proofs.YtpmjlaiafgbjgaaDoor
end

section
namespace Go.Proofs.YtpmjlaiafgbjgaaDoor
open Go.RowKit

def recC (r : IRec) (v : Value) : List Value := [.int .i64 r.1, v]
def cellsI (ps : List (IRec × Value)) : List Value := ps.flatMap fun p => recC p.1 p.2
theorem cellsI_len (ps : List (IRec × Value)) : (cellsI ps).length = ps.length * 2 := by
  induction ps with
  | nil => rfl
  | cons p l ih => rw [cellsI, List.flatMap_cons, List.length_append, ← cellsI, ih, List.length_cons]; show 2 + _ = _; omega
def RecP (w : World) (base : Nat) (v : Value) (ps : List (IRec × Value)) : Prop :=
  w.ownsRow base 50 2 v ps.length (cellsI ps) ∧ ∀ p ∈ ps, OwnB w base p.2 p.1.2 ∧ Bytes p.1.2 ∧ (p.2.ownBlock = none ∨ p.2.ownBlock ≠ v.ownBlock)
/-- a slice of records of the call's own -/
def RecsO (w : World) (base : Nat) (v : Value) (rs : List IRec) : Prop := ∃ ps, ps.map Prod.fst = rs ∧ RecP w base v ps
theorem RecsO.nil_ (w : World) (base : Nat) : RecsO w base (.slice none 0 0) [] := ⟨[], rfl, World.ownsRow_nil _ _ _ _, fun p hp => by cases hp⟩
theorem ownsRow_keep {w w' : World} {base : Nat} {e : TypeId} {size : Nat} {v : Value} {n : Nat} {xs : List Value} (h : w.ownsRow base e size v n xs) (k : ∀ j, v.ownBlock = some j → w'.heap[j]? = w.heap[j]?) : w'.ownsRow base e size v n xs := by
  refine ⟨h.1, ?_⟩
  rcases h.2 with h2 | ⟨g, cap, cur, h1, hb, hg, h3⟩
  · exact .inl h2
  · exact .inr ⟨g, cap, cur, h1, hb, (k g (by rw [h1]; rfl)).trans hg, h3⟩
theorem RecsO.keep {w w' : World} {base : Nat} {v : Value} {rs : List IRec} (h : RecsO w base v rs) (k : ∀ j, base ≤ j → j < w.heap.size → w'.heap[j]? = w.heap[j]?) : RecsO w' base v rs := by
  obtain ⟨ps, h1, h2, h3⟩ := h
  refine ⟨ps, h1, ownsRow_keep h2 (fun j hj => k j (h2.lt j hj).1 (h2.lt j hj).2), fun p hp => ⟨ownsRow_keep (h3 p hp).1 (fun j hj => k j ((h3 p hp).1.lt j hj).1 ((h3 p hp).1.lt j hj).2), (h3 p hp).2⟩⟩
theorem RecsO.of {w w' : World} {base : Nat} {v : Value} {rs : List IRec} (h : RecsO w base v rs) (k : Within w w') : RecsO w' base v rs := h.keep fun j _ hj => k.block j hj
theorem RecsO.but {w w' : World} {bk base : Nat} {v : Value} {rs : List IRec} (h : RecsO w base v rs) (k : But bk w w') (hb : bk < base) : RecsO w' base v rs := h.keep fun j hj hl => k.block j hl (fun e => by have := Option.some.inj e; omega)
theorem RecsO.butS {w w' : World} {S : Nat → Prop} {base : Nat} {v : Value} {rs : List IRec} (h : RecsO w base v rs) (k : ButS S w w') (hb : ∀ j, base ≤ j → ¬ S j) : RecsO w' base v rs := h.keep fun j hj hl => k.block j hl (hb j hj)
theorem owns_lessN {w : World} {base base' : Nat} {E : TypeId} {size : Nat} {v : Value} {n : Nat} {xs : List Value} (h : w.ownsRow base E size v n xs) (k : base' ≤ base) : w.ownsRow base' E size v n xs := by
  refine ⟨h.1, ?_⟩
  rcases h.2 with h2 | ⟨g, cap, cur, h1, hb, h3⟩
  · exact .inl h2
  · exact .inr ⟨g, cap, cur, h1, Nat.le_trans k hb, h3⟩
theorem RecsO.less {w : World} {base base' : Nat} {v : Value} {rs : List IRec} (h : RecsO w base v rs) (k : base' ≤ base) : RecsO w base' v rs := by
  obtain ⟨ps, h1, h2, h3⟩ := h
  exact ⟨ps, h1, owns_lessN h2 k, fun p hp => ⟨(h3 p hp).1.less k, (h3 p hp).2⟩⟩
theorem RecsO.own_lt {w : World} {base : Nat} {v : Value} {rs : List IRec} (h : RecsO w base v rs) : ∀ j, v.ownBlock = some j → base ≤ j ∧ j < w.heap.size := by
  obtain ⟨ps, _, h2, _⟩ := h
  exact h2.lt
theorem cellsI_get : ∀ (ps : List (IRec × Value)) (i : Nat) (p : IRec × Value), ps[i]? = some p → ∀ j u, (recC p.1 p.2)[j]? = some u → (cellsI ps)[i * 2 + j]? = some u
  | [], i, p, h, _, _, _ => by simp at h
  | q :: ps, 0, p, h, j, u, hu => by
    simp at h; subst h
    have hj : j < 2 := by
      obtain ⟨hj, _⟩ := List.getElem?_eq_some_iff.1 hu
      exact hj
    rw [cellsI, List.flatMap_cons, List.getElem?_append_left (by show _ < 2; omega), Nat.zero_mul, Nat.zero_add]
    exact hu
  | q :: ps, i + 1, p, h, j, u, hu => by
    simp at h
    rw [cellsI, List.flatMap_cons, List.getElem?_append_right (by show 2 ≤ _; omega), show (i + 1) * 2 + j - (recC q.1 q.2).length = i * 2 + j by show (i + 1) * 2 + j - 2 = _; omega]
    exact cellsI_get ps i p h j u hu
/-- at block g lie these records, to be read -/
def RecB (w : World) (A : Option Addr) (rs : List IRec) : Prop := ∀ (i : Nat) r, rs[i]? = some r → ∃ g Dv cv, A = some ⟨g, 0, none⟩ ∧ g < w.heap.size ∧ w.cell? ⟨g, i * 2, none⟩ = some (.int .i64 r.1) ∧ w.cell? ⟨g, i * 2 + 1, none⟩ = some (.slice Dv r.2.length cv) ∧ r.2.length ≤ cv ∧ SlAt w Dv (u8v r.2) ∧ Bytes r.2
theorem RecB.of {w w' : World} {A : Option Addr} {rs : List IRec} (h : RecB w A rs) (k : Within w w') : RecB w' A rs := fun i r hi => by
  obtain ⟨g, Dv, cv, h1, h2, h3, h4, h5, h6, h7⟩ := h i r hi
  exact ⟨g, Dv, cv, h1, Nat.lt_of_lt_of_le h2 k.size, (k.cells _ _ h2).trans h3, (k.cells _ _ h2).trans h4, h5, h6.of k, h7⟩
theorem RecsO.at {w : World} {base : Nat} {v : Value} {rs : List IRec} (h : RecsO w base v rs) : ∃ A c, v = .slice A rs.length c ∧ rs.length ≤ c ∧ RecB w A rs ∧ (∀ ad, A = some ad → base ≤ ad.block) ∧ RecAt w (fun k => base ≤ k) A rs := by
  obtain ⟨ps, rfl, hrow, hps⟩ := h
  rcases hrow.2 with ⟨rfl, h0⟩ | ⟨g, cap, cur, rfl, hg, hb, hc, _, _, _⟩
  · have : ps = [] := List.eq_nil_of_length_eq_zero h0
    subst this
    exact ⟨none, 0, rfl, Nat.le_refl _, (fun i r hi => by simp at hi), (fun ad e => by cases e), fun i r hi => by simp at hi⟩
  · obtain ⟨hlt, _⟩ := Array.getElem?_eq_some_iff.1 hb
    have all : ∀ (i : Nat) r, (ps.map Prod.fst)[i]? = some r → ∃ Dv cv, w.cell? ⟨g, i * 2, none⟩ = some (.int .i64 r.1) ∧ w.cell? ⟨g, i * 2 + 1, none⟩ = some (.slice Dv r.2.length cv) ∧ r.2.length ≤ cv ∧ SlAt w Dv (u8v r.2) ∧ (∀ ad, Dv = some ad → base ≤ ad.block) ∧ Bytes r.2 := fun i r hi => by
      rw [List.getElem?_map, Option.map_eq_some_iff] at hi
      obtain ⟨p, hp, rfl⟩ := hi
      obtain ⟨h1, h2, _⟩ := hps p (List.mem_of_getElem? hp)
      obtain ⟨Dv, cv, hv, hl, hs, hD⟩ := h1.form
      have key : ∀ j u, (recC p.1 p.2)[j]? = some u → w.cell? ⟨g, i * 2 + j, none⟩ = some u := fun j u hu => by rw [← add_at]; exact World.ownsRow.cells (g := g) hrow rfl _ _ (cellsI_get ps i p hp j u hu)
      exact ⟨Dv, cv, key 0 _ rfl, by rw [key 1 _ rfl, hv], hl, hs, hD, h2⟩
    refine ⟨some ⟨g, 0, none⟩, cap, by rw [List.length_map], by rw [List.length_map]; exact hc, fun i r hi => ?_, fun ad e => by injection e with e; subst e; exact hg, fun i r hi => ?_⟩
    · obtain ⟨Dv, cv, k0, k1, k2, k3, _, k5⟩ := all i r hi
      exact ⟨g, Dv, cv, rfl, hlt, k0, k1, k2, k3, k5⟩
    · obtain ⟨Dv, cv, k0, k1, k2, k3, k4, k5⟩ := all i r hi
      exact ⟨⟨g, 0, none⟩, Dv, cv, rfl, hlt, hg, by rw [add_at]; exact k0, by rw [add_at]; exact k1, k2, k3, k4, k5⟩
theorem Tryd.infoRec : (Tryd.prog.info? 50).map (fun i => (i.zero, i.size, i.bytes)) = some (some (.agg #[.int .i64 0, .slice none 0 0]), 2, 32) := by kernel_rfl
theorem recC_one (r : IRec) {v : Value} (hv : v.oneCell' = true) : ∀ u ∈ recC r v, u.oneCell' = true := by
  intro u hu
  unfold recC at hu
  simp only [List.mem_cons, List.not_mem_nil, or_false] at hu
  rcases hu with rfl | rfl
  · rfl
  · exact hv
/-- one record more on a row of the call's own -/
theorem run_app_recP (w : World) (base : Nat) (v : Value) (ps : List (IRec × Value)) (r : IRec) (u : Value) (hown : RecP w base v ps) (hu : OwnB w base u r.2) (hub : Bytes r.2) (hne : u.ownBlock = none ∨ u.ownBlock ≠ v.ownBlock) (hl : (ps.length + 1) * 32 ≤ 140737488355328) (hbase : base ≤ w.heap.size) :
    ∃ v' w', (Builtin.append_ #[31, 31] 31 #[v, .slice (some ⟨w.heap.size, 0, none⟩) 1 1]).run Tryd.prog (w.alloc (.cells #[.int .i64 r.1, u] 50)) = .ok v' w' ∧ RecP w' base v' (ps ++ [(r, u)]) ∧ w.grownBy w' v.ownBlock ∧ (v'.ownBlock = v.ownBlock ∨ v'.ownBlock = some (w.heap.size + 1)) := by
  obtain ⟨hrow, hps⟩ := hown
  obtain ⟨i0, hi0, hz0, hz1, hz2⟩ := info_parts Tryd.infoRec
  have hin := (Within.refl w).alloc (.cells #[.int .i64 r.1, u] 50)
  have hu1 : u.oneCell' = true := by obtain ⟨A, c, rfl, _⟩ := hu.form; rfl
  have hrow' := hrow.kept (within_grown hin) (by cases hv : v.ownBlock <;> simp)
  have hcell : ∀ (j : Nat) x, (recC r u)[j]? = some x → (w.alloc (.cells #[.int .i64 r.1, u] 50)).cell? ((⟨w.heap.size, 0, none⟩ : Addr).add j) = some x := fun j x hx => by
    rw [add_at, World.cell?_alloc_at _ _ _ _ rfl]
    unfold recC at hx
    match j, hx with
    | 0, hx => exact hx
    | 1, hx => exact hx
    | j + 2, hx => simp at hx
  obtain ⟨v', w', h1, h2, h3, _, h5⟩ := run_append_own_at (P := Tryd.prog) (w := w.alloc (.cells #[.int .i64 r.1, u] 50)) base 31 31 50 i0 (.agg #[.int .i64 0, .slice none 0 0]) 2 32 (by kernel_rfl) hi0 hz0 hz1 hz2 rfl (by decide) v ps.length (cellsI ps) hrow' ⟨w.heap.size, 0, none⟩ 1 1 (recC r u) rfl hcell (recC_one r hu1)
    (by unfold maxLen; omega) (by omega) (by simp; omega)
  have h5' : v'.ownBlock = v.ownBlock ∨ v'.ownBlock = some (w.heap.size + 1) := by simpa using h5
  refine ⟨v', w', h1, ⟨?_, ?_⟩, ?_, h5'⟩
  · have e : cellsI (ps ++ [(r, u)]) = cellsI ps ++ recC r u := by unfold cellsI; rw [List.flatMap_append]; simp
    rw [List.length_append, e]; exact h2
  · have key : ∀ x xs, OwnB w base x xs → (x.ownBlock = none ∨ x.ownBlock ≠ v.ownBlock) → OwnB w' base x xs ∧ (x.ownBlock = none ∨ x.ownBlock ≠ v'.ownBlock) := fun x xs h hn => by
      refine ⟨(h.of hin).kept h3 hn, ?_⟩
      rcases hn with hn | hn
      · exact .inl hn
      · rcases h5' with h5 | h5
        · exact .inr (by rw [h5]; exact hn)
        · cases hx : x.ownBlock with
          | none => exact .inl rfl
          | some j =>
            refine .inr (fun e => ?_)
            rw [h5] at e
            have := (h.lt j hx).2
            have := Option.some.inj e
            omega
    intro p hp
    rcases List.mem_append.1 hp with h | h
    · exact ⟨(key _ _ (hps p h).1 (hps p h).2.2).1, (hps p h).2.1, (key _ _ (hps p h).1 (hps p h).2.2).2⟩
    · rw [List.mem_singleton] at h; rw [h]; exact ⟨(key _ _ hu hne).1, hub, (key _ _ hu hne).2⟩
  · exact ⟨h3.os, h3.tape, h3.output, Nat.le_trans (by simp) h3.size, fun k hk hn => (h3.block k (by simp; omega) hn).trans (Below.heap_alloc _ _ _ hk)⟩
theorem run_app_rec (w : World) (base : Nat) (v : Value) (rs : List IRec) (r : IRec) (u : Value) (hown : RecsO w base v rs) (hu : OwnB w base u r.2) (hub : Bytes r.2) (hne : u.ownBlock = none ∨ u.ownBlock ≠ v.ownBlock) (hl : (rs.length + 1) * 32 ≤ 140737488355328) (hbase : base ≤ w.heap.size) :
    ∃ v' w', (Builtin.append_ #[31, 31] 31 #[v, .slice (some ⟨w.heap.size, 0, none⟩) 1 1]).run Tryd.prog (w.alloc (.cells #[.int .i64 r.1, u] 50)) = .ok v' w' ∧ RecsO w' base v' (rs ++ [r]) ∧ w.grownBy w' v.ownBlock ∧ (∀ j, v.ownBlock = some j → base ≤ j) ∧ (v'.ownBlock = v.ownBlock ∨ v'.ownBlock = some (w.heap.size + 1)) := by
  obtain ⟨ps, rfl, hP⟩ := hown
  obtain ⟨v', w', h1, h2, h3, h4⟩ := run_app_recP w base v ps r u hP hu hub hne (by rw [List.length_map] at hl; exact hl) hbase
  exact ⟨v', w', h1, ⟨ps ++ [(r, u)], by rw [List.map_append]; rfl, h2⟩, h3, fun j hj => (hP.1.lt j hj).1, h4⟩
end Go.Proofs.YtpmjlaiafgbjgaaDoor
end

section
namespace Go.Proofs.YtpmjlaiafgbjgaaDoor
open Go.RowKit

set_option maxRecDepth 100000 in
set_option maxHeartbeats 1000000 in
theorem clone_any (A : Option Addr) (c : Nat) (l : List Nat) (hl : l.length ≤ 70368744177664) (w : World) (hr : SlAt w A (u8v l)) : Calls Tryd.prog 44 #[.slice A l.length c] w fun e w' => ∃ v, e = .returned v ∧ OwnB w' w.heap.size v l ∧ Within w w' := by
  rcases A with _ | ad
  · have h0 : l = [] := by
      rcases Nat.eq_zero_or_pos l.length with h | h
      · exact List.eq_nil_of_length_eq_zero h
      · obtain ⟨_, e, _⟩ := hr (by rw [u8v_len]; exact h); cases e
    subst h0
    clear hr
    have q : ∀ w : World, (binOp .eql 22 (.slice none 0 c) (.slice none 0 0)).run Tryd.prog w = .ok (.bool true) w := fun _ => by kernel_rfl
    go_enter Tryd.func44, Tryd.ntmps44
    go_wp2
    go_ret
    exact ⟨_, rfl, OwnB.nil_ _ _, Within.refl _⟩
  · have q : ∀ (n : Nat) (w : World), (binOp .eql 22 (.slice (some ad) n c) (.slice none 0 0)).run Tryd.prog w = .ok (.bool false) w := fun _ _ => by kernel_rfl
    have hin := (Within.refl w).alloc (.cells #[] 5)
    obtain ⟨v2, w2, hrun, hO2, hB2⟩ := run_app_u8 _ w.heap.size _ [] l (OwnB.lit w w.heap.size (Nat.le_refl _) [] (by simp)) (some ad) c (hr.of hin) (by rw [List.length_nil]; omega) hin.size
    rw [List.nil_append] at hO2
    have hW2 : Within w w2 := Below.trans hin hB2
    have RUN := Lib.hid hrun; have HO := Lib.hid hO2; have HW := Lib.hid hW2; clear hrun hO2 hW2 hr hin hB2
    go_enter Tryd.func44, Tryd.ntmps44
    go_wp2_with (at_builtin; refine wpList_append_run rfl (.tmp 5) (.tmp 6) 22 rfl _ _ rfl rfl RUN.out ?_)
    go_ret
    exact ⟨_, rfl, HO.out, HW.out⟩

set_option maxRecDepth 100000 in
set_option maxHeartbeats 1000000 in
theorem copied_any (k : Int) (A : Option Addr) (c : Nat) (l : List Nat) (hl : l.length ≤ 70368744177664) (w : World) (hr : SlAt w A (u8v l)) : Calls Tryd.prog 25 #[.agg #[.int .i64 k, .slice A l.length c]] w fun e w' => ∃ v, e = .returned (.agg #[.int .i64 k, v]) ∧ OwnB w' w.heap.size v l ∧ Within w w' := by
  obtain ⟨W0, hW0⟩ : ∃ W0, W0 = (w.alloc (.cells #[.int .i64 k, .slice A l.length c] 50)).alloc (.cells #[.int .i64 0, .slice none 0 0] 50) := ⟨_, rfl⟩
  have k0 : W0.cell? ⟨w.heap.size, 0, none⟩ = some (.int .i64 k) := by rw [hW0]; simp
  have k1 : W0.cell? ⟨w.heap.size, 1, none⟩ = some (.slice A l.length c) := by rw [hW0]; simp
  have z0 : W0.cell? ⟨w.heap.size + 1, 0, none⟩ = some (.int .i64 0) := by rw [hW0]; simp
  have z1 : W0.cell? ⟨w.heap.size + 1, 1, none⟩ = some (.slice none 0 0) := by rw [hW0]; simp
  have zf : ∀ o, W0.frozen? ⟨w.heap.size + 1, o, none⟩ = false := fun o => by rw [hW0, show w.heap.size + 1 = (w.alloc (.cells #[.int .i64 k, .slice A l.length c] 50)).heap.size by simp]; exact World.frozen?_alloc_new _ _ _ _
  have kb : w.heap.size < W0.heap.size := by rw [hW0]; simp; omega
  have zb : w.heap.size + 1 < W0.heap.size := by rw [hW0]; simp
  have hww : Within w W0 := by rw [hW0]; exact ((Within.refl w).alloc _).alloc _
  have HWW := Lib.hid hww; have HS := Lib.hid (hr.of hww); clear hww hr
  go_enter Tryd.func25, Tryd.ntmps25
  go_wp2_with fail
  rw [← hW0]
  clear hW0
  refine wp_region_schG (fun W => W.cell? ⟨w.heap.size, 0, none⟩ = some (.int .i64 k) ∧ W.cell? ⟨w.heap.size, 1, none⟩ = some (.slice A l.length c) ∧ (∀ o, W.frozen? ⟨w.heap.size + 1, o, none⟩ = false) ∧ W.cell? ⟨w.heap.size + 1, 0, none⟩ = some (.int .i64 0) ∧ W.cell? ⟨w.heap.size + 1, 1, none⟩ = some (.slice none 0 0) ∧ w.heap.size < W.heap.size ∧ w.heap.size + 1 < W.heap.size ∧ W = W0) 7 (.firm 0 (.firm 1 (.firm 3 (.firm 4 (.one 2 (.one 5 (.firm 6 (.one 7 .nil)))))))) (by kernel_rfl) (by kernel_rfl) ⟨k0, k1, zf, z0, z1, kb, zb, rfl⟩ ?_
  rintro w0 ⟨k0, k1, zf, z0, z1, kb, zb, rfl⟩
  try simp only [Act.put, List.setIfInBounds_toArray, List.set_cons_zero, List.set_cons_succ]
  iterate 4
    apply sch_firm rfl rfl (by repeat (first | with_reducible exact Within.refl _ | with_reducible assumption | with_reducible refine Within.alloc ?_ _ | with_reducible refine Within.drew ?_ | with_reducible refine Within.drewN ?_ _ | with_reducible refine Within.setCell ?_ (by first | (simp; done) | (simp; omega)) _ | with_reducible refine Within.trans ?_ (by assumption)))
    · intro wq hq
      have hcq := hq.cells
      clear hq
      go_simp
      rfl
    try simp only [Act.put, List.setIfInBounds_toArray, List.set_cons_zero, List.set_cons_succ]
  refine sch_one rfl rfl (fun K hK => ?_)
  go_simp
  refine hK _ _ (fun _ => (by repeat (first | with_reducible exact Within.refl _ | with_reducible assumption | with_reducible refine Within.alloc ?_ _ | with_reducible refine Within.drew ?_ | with_reducible refine Within.drewN ?_ _ | with_reducible refine Within.setCell ?_ (by first | (simp; done) | (simp; omega)) _ | with_reducible refine Within.trans ?_ (by assumption)))) ?_
  clear hK K
  try simp only [Act.put, List.setIfInBounds_toArray, List.set_cons_zero, List.set_cons_succ]
  refine sch_one rfl rfl (fun K hK => ?_)
  have hin2 := ((Within.refl w0).drew).alloc (.cells #[] 5)
  obtain ⟨v5, w5, hrun, hO5, hB5⟩ := run_app_u8 _ w0.heap.size _ [] l (OwnB.lit w0.drew w0.heap.size (Nat.le_refl _) [] (by simp)) A c (HS.out.of hin2) (by rw [List.length_nil]; omega) hin2.size
  rw [List.nil_append] at hO5
  have hX5 : Within w0 w5 := Below.trans hin2 hB5
  have RUN := Lib.hid hrun; have HO5 := Lib.hid hO5; clear hrun hO5 hB5 hin2
  refine op_append_run (.tmp 5) (.tmp 7) 22 rfl _ _ rfl rfl RUN.out ?_
  obtain ⟨A5, c5, rfl, hx5, hy5, hz5⟩ := HO5.out.form
  clear hx5 hy5 hz5
  refine hK _ _ (fun _ => (by repeat (first | with_reducible exact Within.refl _ | with_reducible assumption | with_reducible refine Within.alloc ?_ _ | with_reducible refine Within.drew ?_ | with_reducible refine Within.drewN ?_ _ | with_reducible refine Within.setCell ?_ (by first | (simp; done) | (simp; omega)) _ | with_reducible refine Within.trans ?_ (by assumption)))) ?_
  clear hK K
  try simp only [Act.put, List.setIfInBounds_toArray, List.set_cons_zero, List.set_cons_succ]
  apply sch_firm rfl rfl (by repeat (first | with_reducible exact Within.refl _ | with_reducible assumption | with_reducible refine Within.alloc ?_ _ | with_reducible refine Within.drew ?_ | with_reducible refine Within.drewN ?_ _ | with_reducible refine Within.setCell ?_ (by first | (simp; done) | (simp; omega)) _ | with_reducible refine Within.trans ?_ (by assumption)))
  · intro wq hq
    have hcq := hq.cells
    clear hq
    go_simp
    rfl
  try simp only [Act.put, List.setIfInBounds_toArray, List.set_cons_zero, List.set_cons_succ]
  refine sch_one rfl rfl (fun K hK => ?_)
  have f5 : w5.frozen? ⟨w.heap.size + 1, 0, none⟩ = false := (hX5.frozens _ _ zb).trans (zf 0)
  have f6 : w5.frozen? ⟨w.heap.size + 1, 1, none⟩ = false := (hX5.frozens _ _ zb).trans (zf 1)
  have y0 := (hX5.cells _ 0 zb).trans z0
  have y1 := (hX5.cells _ 1 zb).trans z1
  have zb5 := Nat.lt_of_lt_of_le zb hX5.size
  go_simp
  refine hK _ _ (fun h => absurd h (by decide)) ?_
  clear hK K
  try simp only [Act.put, List.setIfInBounds_toArray, List.set_cons_zero, List.set_cons_succ]
  refine sch_nil ?_
  go_wp2
  obtain ⟨n5, hn5⟩ : ∃ n5, n5 = l.length := ⟨_, rfl⟩
  refine bodyPost_ret (v := .agg #[.int .i64 k, .slice A5 l.length c5]) (by simp [results, Tryd.results25, go_sem, y0, y1, f5, f6]) rfl ⟨_, rfl, ?_, ?_⟩
  · exact ownsRow_keep (ownsRow_keep (HO5.out.less HWW.out.size) (fun j hj => Below.heap_setCell _ _ _ _ (by have := (HO5.out.lt j hj).1; simp; omega))) (fun j hj => Below.heap_setCell _ _ _ _ (by have := (HO5.out.lt j hj).1; simp; omega))
  · exact (((HWW.out.trans hX5).setCell (by simp) _).setCell (by simp) _)

set_option maxRecDepth 100000 in
set_option maxHeartbeats 1000000 in
theorem Rsame22_any (A B : Option Addr) (c d : Nat) (rs : List IRec) (hl : rs.length ≤ 1152921504606846976) (w : World) (h1 : RecB w A rs) (h2 : RecB w B rs) : Calls Tryd.prog 16 #[.slice A rs.length c, .slice B rs.length d] w fun e w' => e = .returned (.bool true) ∧ Within w w' := by
  have H1 := Lib.hid h1; have H2 := Lib.hid h2; clear h1 h2
  go_enter Tryd.func16, Tryd.ntmps16
  go_wp2
  go_loopw [5] (fun iv wr => ∃ i : Nat, i ≤ rs.length ∧ iv = .int .i64 (i : Int) ∧ Within w wr) (fun iv _ => rs.length - (intOf iv).toNat)
  case atStart => exact ⟨0, Nat.zero_le _, rfl, Within.refl _⟩
  case round =>
    obtain ⟨i, hi, rfl, hin⟩ := hrel
    by_cases hlt : i < rs.length
    · have hget : rs[i]? = some rs[i] := List.getElem?_eq_getElem hlt
      obtain ⟨r, hr⟩ : ∃ r, r = rs[i] := ⟨_, rfl⟩
      rw [← hr] at hget
      clear hr
      obtain ⟨g1, Dv, cv, rfl, l1, x0, x1, _, hs1, _⟩ := (H1.out.of hin) i r hget
      obtain ⟨g2, Ev, dv, rfl, l2, y0, y1, _, hs2, _⟩ := (H2.out.of hin) i r hget
      have HS1 := Lib.hid hs1; have HS2 := Lib.hid hs2; have HIN := Lib.hid hin; clear hs1 hs2 hin hget
      have b1 : (i : Int) < (rs.length : Int) := by omega
      have en : (r.1 != r.1) = false := by simp
      obtain ⟨s, hs⟩ : ∃ s, s = strB r.2 := ⟨_, rfl⟩
      have ST : Hid (∀ W A c, SlAt W A (u8v r.2) → (convert 22 9 (.slice A r.2.length c)).run Tryd.prog W = .ok (.string s) W) := Lib.hid (fun W A c h => by rw [hs]; exact run_str A c r.2 W h)
      have es : (s.toList != s.toList) = false := by simp
      clear hs
      go_wp2_with fail
      refine wp_region_schG (fun W => W.cell? ⟨g1, i * 2, none⟩ = some (.int .i64 r.1) ∧ W.cell? ⟨g1, i * 2 + 1, none⟩ = some (.slice Dv r.2.length cv) ∧ W.cell? ⟨g2, i * 2, none⟩ = some (.int .i64 r.1) ∧ W.cell? ⟨g2, i * 2 + 1, none⟩ = some (.slice Ev r.2.length dv) ∧ g1 < W.heap.size ∧ g2 < W.heap.size ∧ SlAt W Dv (u8v r.2) ∧ SlAt W Ev (u8v r.2) ∧ Within w W) 25 (.firm 0 (.firm 1 (.firm 2 (.firm 3 (.firm 4 (.firm 5 (.firm 6 (.firm 7 (.firm 8 (.firm 9 (.firm 10 (.firm 11 (.firm 12 (.firm 13 (.firm 14 (.firm 15 (.firm 16 (.firm 17 (.firm 18 (.firm 19 (.firm 20 (.firm 21 (.firm 22 (.firm 23 (.firm 24 (.one 25 .nil)))))))))))))))))))))))))) (by kernel_rfl) (by kernel_rfl) ⟨x0, x1, y0, y1, l1, l2, HS1.out, HS2.out, HIN.out⟩ ?_
      rintro w0 ⟨k0, k1, m0, m1, lg1, lg2, hsa0, hsb0, hw0⟩
      try simp only [Act.put, List.setIfInBounds_toArray, List.set_cons_zero, List.set_cons_succ]
      iterate 12
        apply sch_firm rfl rfl (by repeat (first | with_reducible exact Within.refl _ | with_reducible assumption | with_reducible refine Within.alloc ?_ _ | with_reducible refine Within.drew ?_ | with_reducible refine Within.drewN ?_ _ | with_reducible refine Within.setCell ?_ (by first | (simp; done) | (simp; omega)) _ | with_reducible refine Within.trans ?_ (by assumption)))
        · intro wq hq
          have hcq := hq.cells
          have st1 := ST.out wq Dv cv (hsa0.of hq)
          have st2 := ST.out wq Ev dv (hsb0.of hq)
          clear hq
          go_simp
          rfl
        try simp only [Act.put, List.setIfInBounds_toArray, List.set_cons_zero, List.set_cons_succ]
      iterate 13
        apply sch_want rfl (by first | rfl | decide | (simp [Region.wanted, yielded]; done)) (by repeat (first | with_reducible exact Within.refl _ | with_reducible assumption | with_reducible refine Within.alloc ?_ _ | with_reducible refine Within.drew ?_ | with_reducible refine Within.drewN ?_ _ | with_reducible refine Within.setCell ?_ (by first | (simp; done) | (simp; omega)) _ | with_reducible refine Within.trans ?_ (by assumption)))
        · intro wq hq
          have hcq := hq.cells
          have st1 := ST.out wq Dv cv (hsa0.of hq)
          have st2 := ST.out wq Ev dv (hsb0.of hq)
          clear hq
          go_simp
          rfl
        try simp only [Act.put, List.setIfInBounds_toArray, List.set_cons_zero, List.set_cons_succ]
      refine sch_one rfl rfl (fun K hK => ?_)
      go_simp
      refine hK _ _ (fun h => absurd h (by decide)) ?_
      clear hK K
      try simp only [Act.put, List.setIfInBounds_toArray, List.set_cons_zero, List.set_cons_succ]
      refine sch_nil ?_
      have hw4 : Within w w0.drew := hw0.drew
      clear hw0
      go_wp2
      go_roundw
      case rel => exact ⟨i + 1, hlt, by go_num, hw4⟩
      case measure => simp [intOf]; omega
    · obtain rfl : i = rs.length := by omega
      go_wp2
      go_ret
      exact ⟨rfl, hin⟩

end Go.Proofs.YtpmjlaiafgbjgaaDoor
end
