/- Packets: lists of readings laid behind one another; what is counted, alike; streams in parts. -/
import Derived.Test.YtmpcnhiklpahnaaDoorPk23
namespace Go.Proofs.YtmpcnhiklpahnaaDoor
open Go.RowKit

theorem cellsR_one {ps : List (Rd × Value)} (h : ∀ p ∈ ps, p.2.oneCell' = true) : ∀ u ∈ cellsR ps, u.oneCell' = true := fun u hu => by
  obtain ⟨p, hp, hu⟩ := List.mem_flatMap.1 hu
  exact rdC_one p.1 (h p hp) u hu
/-- readings of the call's own laid behind others of its own -/
theorem run_app_rds (w : World) (base base' : Nat) (v v' : Value) (rs rs' : List Rd) (hown : RdsO w base v rs) (hown' : RdsO w base' v' rs') (hbb : base ≤ base') (hlb : ∀ j, v.ownBlock = some j → j < base') (hl : (rs.length + rs'.length) * 40 ≤ 140737488355328) (hbase : base ≤ w.heap.size) :
    ∃ u w', (Builtin.append_ #[58, 58] 58 #[v, v']).run Tryd.prog w = .ok u w' ∧ RdsO w' base u (rs ++ rs') ∧ w.grownBy w' v.ownBlock ∧ (∀ j, v.ownBlock = some j → base ≤ j) := by
  obtain ⟨ps', rfl, hrow', hps'⟩ := hown'
  obtain ⟨ps, rfl, hrow, hps⟩ := hown
  rcases hrow'.2 with ⟨rfl, h0⟩ | ⟨g, cap, cur, rfl, hg, hb, hc, _, _, _⟩
  · have e : ps' = [] := List.eq_nil_of_length_eq_zero h0
    subst e
    obtain ⟨i0, hi0, hz0, hz1, hz2⟩ := info_parts Tryd.infoRd
    refine ⟨v, w, ?_, ⟨ps, by simp, hrow, hps⟩, World.grownBy.refl w _, fun j hj => (hrow.lt j hj).1⟩
    rcases hrow.2 with ⟨rfl, h0⟩ | ⟨g, cap, cur, rfl, _, _, hnc, _⟩
    · simp [Builtin.append_, run_underlying (show Tryd.prog.underlying 58 = some (.slice 29) by kernel_rfl), sizeOf, typeInfo, hi0, Builtin.lenOf, Builtin.firstCells]
    · simp [Builtin.append_, run_underlying (show Tryd.prog.underlying 58 = some (.slice 29) by kernel_rfl), sizeOf, typeInfo, hi0, Builtin.lenOf, Builtin.firstCells, hnc, storeCells]
  · obtain ⟨i0, hi0, hz0, hz1, hz2⟩ := info_parts Tryd.infoRd
    have hcell : ∀ (j : Nat) x, (cellsR ps')[j]? = some x → w.cell? ((⟨g, 0, none⟩ : Addr).add j) = some x := fun j x hx => World.ownsRow.cells (g := g) hrow' rfl j x hx
    rw [List.length_map, List.length_map] at hl
    obtain ⟨u, w', h1, h2, h3, _, h5⟩ := run_append_own_at (P := Tryd.prog) (w := w) base 58 58 29 i0 (.agg #[.int .i64 0, .int .u32 0, .int .u32 0, .slice none 0 0]) 4 40 (by kernel_rfl) hi0 hz0 hz1 hz2 rfl (by decide) v ps.length (cellsR ps) hrow ⟨g, 0, none⟩ ps'.length cap (cellsR ps') (cellsR_len ps') hcell
      (cellsR_one fun p hp => by obtain ⟨A, c, e, _⟩ := (hps' p hp).1.form; rw [e]; rfl) (by unfold maxLen; omega) hl hbase
    have hlt := fun j hj => (hrow.lt j hj)
    have key : ∀ x xs, OwnF w base x xs → (x.ownBlock = none ∨ x.ownBlock ≠ v.ownBlock) → OwnF w' base x xs ∧ (x.ownBlock = none ∨ x.ownBlock ≠ u.ownBlock) := fun x xs h hn => by
      refine ⟨h.kept h3 hn, ?_⟩
      rcases hn with hn | hn
      · exact .inl hn
      · rcases h5 with h5 | h5
        · exact .inr (by rw [h5]; exact hn)
        · cases hx : x.ownBlock with
          | none => exact .inl rfl
          | some j =>
            refine .inr (fun e => ?_)
            rw [h5] at e
            have := (h.lt j hx).2
            have := Option.some.inj e
            omega
    refine ⟨u, w', h1, ⟨ps ++ ps', by rw [List.map_append], ?_, ?_⟩, h3, fun j hj => (hlt j hj).1⟩
    · have e : cellsR (ps ++ ps') = cellsR ps ++ cellsR ps' := by unfold cellsR; rw [List.flatMap_append]
      rw [List.length_append, e]; exact h2
    · intro p hp
      rcases List.mem_append.1 hp with h | h
      · exact key _ _ (hps p h).1 (hps p h).2
      · refine key _ _ ((hps' p h).1.less hbb) ?_
        cases hx : p.2.ownBlock with
        | none => exact .inl rfl
        | some j => exact .inr (fun e => by have h1 := ((hps' p h).1.lt j hx).1; have h2 := hlb j e.symm; omega)
/-- what is counted, compared with itself -/
theorem noted_eq (a b : Int) (w : World) : (Op.equalIn 10000 64 (.agg #[.int .i64 a, .int .i64 b]) (.agg #[.int .i64 a, .int .i64 b])).run Tryd.prog w = .ok true w := by
  have e := fun (x y : Int) (w : World) => run_equalIn_int (P := Tryd.prog) w 9998 3 .i64 .i64 x y (by kernel_rfl)
  have hu : Tryd.prog.underlying 64 = some (.struct #[{ name := "Frames", type := 3, offset := 0, embedded := false, tag := "", pkgPath := "", byteOffset := 0 }, { name := "Dropped", type := 3, offset := 1, embedded := false, tag := "", pkgPath := "", byteOffset := 8 }]) := by kernel_rfl
  have hf : Tryd.prog.fieldsOf 64 = #[{ name := "Frames", type := 3, offset := 0, embedded := false, tag := "", pkgPath := "", byteOffset := 0 }, { name := "Dropped", type := 3, offset := 1, embedded := false, tag := "", pkgPath := "", byteOffset := 8 }] := by unfold Program.fieldsOf; rw [hu]
  rw [run_equalIn_agg w 9999 64 _ _ (by kernel_rfl) (by kernel_rfl), hf]
  simp [Op.eqFields, go_sem, e]
theorem feed_more (x y : List Nat) : feedV pf (x ++ y) = ((feedV pf x).1 ++ (feedV pf ((feedV pf x).2.2 ++ y)).1, (feedV pf x).2.1 + (feedV pf ((feedV pf x).2.2 ++ y)).2.1, (feedV pf ((feedV pf x).2.2 ++ y)).2.2) := feedV_app (F := pf) x.length x y (Nat.le_refl _)
theorem SlAt.grown {w w' : World} {row : Option Nat} {A : Option Addr} {xs : List Value} (h : SlAt w A xs) (k : w.grownBy w' row) (hA : ∀ ad, A = some ad → some ad.block ≠ row) : SlAt w' A xs := fun hn => by
  obtain ⟨ad, e, hb, hc⟩ := h hn
  have key : ∀ j, w'.cell? (ad.add j) = w.cell? (ad.add j) := fun j => World.cell?_of_block (k.block _ (by rw [add_block]; exact hb) (by rw [add_block]; exact hA ad e))
  exact ⟨ad, e, Nat.lt_of_lt_of_le hb k.size, fun j u hu => (key j).trans (hc j u hu)⟩
theorem RdrP.grown {w w' : World} {row : Option Nat} {bk base : Nat} {K : List Nat} {F D : Nat} (h : RdrP w bk base K F D) (k : w.grownBy w' row) (hr : ∀ j, row = some j → j ≠ bk ∧ j < base) : RdrP w' bk base K F D := by
  obtain ⟨A, c, h1, h2, h3, h4⟩ := h
  exact ⟨A, c, h1.grown k (fun e => (hr bk e.symm).1 rfl), h2, h3.grown k (fun ad e e' => by have := h4 ad e; have := (hr _ e'.symm).2; omega), h4⟩
theorem take_more (sl : List Nat) (m n : Nat) : sl.take (m + n) = sl.take m ++ (sl.drop m).take n := by rw [List.take_add]
theorem feed_take (sl : List Nat) (m n : Nat) : feedV pf (sl.take (m + n)) = ((feedV pf (sl.take m)).1 ++ (feedV pf ((feedV pf (sl.take m)).2.2 ++ (sl.drop m).take n)).1, (feedV pf (sl.take m)).2.1 + (feedV pf ((feedV pf (sl.take m)).2.2 ++ (sl.drop m).take n)).2.1, (feedV pf ((feedV pf (sl.take m)).2.2 ++ (sl.drop m).take n)).2.2) := by
  rw [take_more, feed_more]
theorem sum_snoc {l : List Rd} {i : Nat} {r : Rd} (h : l[i]? = some r) : ((l.take (i + 1)).map fun r => (packV pf r).length).sum = ((l.take i).map fun r => (packV pf r).length).sum + (packV pf r).length := by
  obtain ⟨hi, hr⟩ := List.getElem?_eq_some_iff.1 h
  rw [List.take_succ_eq_append_getElem hi, hr, List.map_append, List.sum_append]
  simp
theorem sum_take_le (l : List Rd) (i : Nat) : ((l.take i).map fun r => (packV pf r).length).sum ≤ (l.map fun r => (packV pf r).length).sum := by
  conv => rhs; rw [← List.take_append_drop i l, List.map_append, List.sum_append]
  omega
end Go.Proofs.YtmpcnhiklpahnaaDoor
