/- Words for memory: slices that read as lists; rows of a call's own that grow. -/
import Derived.Test.YtmpcnhiklpahnaaDoorBase
import Derived.OwnWalk
import Derived.Maps.AppendAt
import Derived.Laws.OwnMore
import Derived.Deep.AppendLies
import Derived.Deep.Draws
namespace Go.Proofs.YtmpcnhiklpahnaaDoor
open Go.RowKit

def u8v (l : List Nat) : List Value := l.map fun (x : Nat) => .int .u8 (x : Int)
def u64v (l : List Nat) : List Value := l.map fun (x : Nat) => .int .u64 (x : Int)
def f64v (l : List Nat) : List Value := l.map fun (x : Nat) => .float .f64 x
theorem u8v_len (l : List Nat) : (u8v l).length = l.length := List.length_map ..
theorem f64v_len (l : List Nat) : (f64v l).length = l.length := List.length_map ..
theorem u64v_len (l : List Nat) : (u64v l).length = l.length := List.length_map ..

theorem add_block (a : Addr) (n : Nat) : (a.add n).block = a.block := by unfold Addr.add; split <;> rfl
theorem add_add (a : Addr) (i j : Nat) : (a.add i).add j = a.add (i + j) := by
  unfold Addr.add
  by_cases hi : i = 0 <;> by_cases hj : j = 0 <;> simp [hi, hj, Nat.add_assoc]
theorem add_nought (a : Addr) : a.add 0 = a := by unfold Addr.add; rw [if_pos rfl]

/-- at A lie these cells -/
def SlAt (w : World) (A : Option Addr) (xs : List Value) : Prop := 0 < xs.length → ∃ ad, A = some ad ∧ ad.block < w.heap.size ∧ ∀ (j : Nat) u, xs[j]? = some u → w.cell? (ad.add j) = some u
theorem SlAt.nil {w : World} {A : Option Addr} : SlAt w A [] := fun h => absurd h (by simp)
theorem SlAt.of {w w' : World} {A : Option Addr} {xs : List Value} (h : SlAt w A xs) (k : Within w w') : SlAt w' A xs := fun hn => by
  obtain ⟨ad, e, hb, hc⟩ := h hn
  exact ⟨ad, e, Nat.lt_of_lt_of_le hb k.size, fun j u hu => (k.cell (by rw [add_block]; exact hb)).trans (hc j u hu)⟩
theorem SlAt.below {w w' : World} {A : Option Addr} {xs : List Value} {B : Nat} (h : SlAt w A xs) (hA : ∀ ad, A = some ad → ad.block < B) (k : Below B w w') : SlAt w' A xs := fun hn => by
  obtain ⟨ad, e, hb, hc⟩ := h hn
  exact ⟨ad, e, Nat.lt_of_lt_of_le hb k.size, fun j u hu => (k.cell (by rw [add_block]; exact hA ad e)).trans (hc j u hu)⟩
theorem SlAt.at {w : World} {A : Option Addr} {l : List Nat} {v : Nat → Value} (h : SlAt w A (l.map v)) {k : Nat} (hk : k < l.length) : ∃ ad, A = some ad ∧ ad.block < w.heap.size ∧ w.cell? (ad.add k) = some (v (l.getD k 0)) := by
  obtain ⟨ad, e, hb, hc⟩ := h (by rw [List.length_map]; omega)
  refine ⟨ad, e, hb, hc k _ ?_⟩
  rw [List.getElem?_map, List.getElem?_eq_getElem hk, Option.map_some]
  simp [List.getD, List.getElem?_eq_getElem hk]
theorem SlAt.some_ {w : World} {A : Option Addr} {xs : List Value} (h : SlAt w A xs) (hn : 0 < xs.length) : ∃ ad, A = some ad ∧ ad.block < w.heap.size ∧ ∀ (j : Nat) u, xs[j]? = some u → w.cell? (ad.add j) = some u := h hn
theorem SlAt.take {w : World} {A : Option Addr} {xs : List Value} (h : SlAt w A xs) (k : Nat) : SlAt w A (xs.take k) := fun hn => by
  obtain ⟨ad, e, hb, hc⟩ := h (Nat.lt_of_lt_of_le hn (List.length_take_le' _ _))
  refine ⟨ad, e, hb, fun j u hu => hc j u ?_⟩
  rw [List.getElem?_take] at hu
  split at hu
  · exact hu
  · cases hu
theorem SlAt.drop {w : World} {ad : Addr} {xs : List Value} (h : SlAt w (some ad) xs) (k : Nat) : SlAt w (some (ad.add k)) (xs.drop k) := fun hn => by
  obtain ⟨ad', e, hb, hc⟩ := h (by rw [List.length_drop] at hn; omega)
  obtain rfl := Option.some.inj e
  refine ⟨_, rfl, by rw [add_block]; exact hb, fun j u hu => ?_⟩
  rw [add_add]
  exact hc _ u (by rw [← hu, List.getElem?_drop])

theorem u8v_get {l : List Nat} {j : Nat} {u : Value} (h : (u8v l)[j]? = some u) : u.oneCell' = true := by
  unfold u8v at h
  rw [List.getElem?_map, Option.map_eq_some_iff] at h
  obtain ⟨x, _, rfl⟩ := h; rfl
theorem u8v_one (l : List Nat) : ∀ u ∈ u8v l, u.oneCell' = true := fun u hu => by
  obtain ⟨x, _, rfl⟩ := List.mem_map.1 hu; rfl
theorem f64v_one (l : List Nat) : ∀ u ∈ f64v l, u.oneCell' = true := fun u hu => by
  obtain ⟨x, _, rfl⟩ := List.mem_map.1 hu; rfl
theorem owns_form {w : World} {base : Nat} {E : TypeId} {v : Value} {n : Nat} {xs : List Value} (h : w.ownsRow base E 1 v n xs) : ∃ A c, v = .slice A n c ∧ n ≤ c ∧ SlAt w A xs ∧ (∀ ad, A = some ad → base ≤ ad.block) := by
  have hlen : xs.length = n := by have := h.1; simpa using this
  rcases h.2 with ⟨rfl, h0⟩ | ⟨g, cap, cur, rfl, hg, hb, hc, _, hsz, htk⟩
  · exact ⟨none, 0, by rw [h0], by omega, fun hn => by omega, fun ad e => by cases e⟩
  · refine ⟨_, _, rfl, hc, fun hn => ?_, fun ad e => by injection e with e; subst e; exact hg⟩
    obtain ⟨hlt, _⟩ := Array.getElem?_eq_some_iff.1 hb
    exact ⟨_, rfl, hlt, h.cells (g := g) rfl⟩
theorem run_app_nil {P : Program} (w : World) (base : Nat) (t ty e : TypeId) (i : TypeInfo) (ht : P.underlying t = some (.slice e)) (hi : P.info? e = some i)
    (v : Value) (n : Nat) (xs : List Value) (hown : w.ownsRow base e 1 v n xs) (c : Nat) : (Builtin.append_ #[t, t] ty #[v, .slice none 0 c]).run P w = .ok v w := by
  rcases hown.2 with ⟨rfl, rfl⟩ | ⟨g, cap, cur, rfl, _, _, hnc, _⟩
  · simp [Builtin.append_, run_underlying ht, sizeOf, typeInfo, hi, Builtin.lenOf, Builtin.firstCells]
  · simp [Builtin.append_, run_underlying ht, sizeOf, typeInfo, hi, Builtin.lenOf, Builtin.firstCells, hnc, storeCells]
/-- a source that is nil, empty or not is laid behind a row of the call's own -/
theorem run_app {P : Program} (w : World) (base : Nat) (t ty e : TypeId) (i : TypeInfo) (z : Value) (bytes : Nat) (ht : P.underlying t = some (.slice e)) (hi : P.info? e = some i) (hz : i.zero = some z)
    (hsize : i.size = 1) (hby : i.bytes = bytes) (hzs : z.cells.size = 1) (v : Value) (n : Nat) (xs : List Value) (hown : w.ownsRow base e 1 v n xs)
    (A : Option Addr) (c : Nat) (news : List Value) (hr : SlAt w A news) (h1 : ∀ u ∈ news, u.oneCell' = true) (h63 : n + news.length ≤ maxLen) (hbytes : (n + news.length) * bytes ≤ 140737488355328) (hbase : base ≤ w.heap.size) :
    ∃ v' w', (Builtin.append_ #[t, t] ty #[v, .slice A news.length c]).run P w = .ok v' w' ∧ w'.ownsRow base e 1 v' (n + news.length) (xs ++ news) ∧ w.grownBy w' v.ownBlock ∧ (v'.ownBlock = v.ownBlock ∨ v'.ownBlock = some w.heap.size) := by
  rcases A with _ | ad
  · have hn : news = [] := by
      rcases Nat.eq_zero_or_pos news.length with h0 | h0
      · exact List.eq_nil_of_length_eq_zero h0
      · obtain ⟨ad, h, _⟩ := hr h0
        cases h
    subst hn
    exact ⟨v, w, run_app_nil w base t ty e i ht hi v n xs hown c, by simpa using hown, World.grownBy.refl w _, .inl rfl⟩
  · have hcells : ∀ j u, news[j]? = some u → w.cell? (ad.add j) = some u := by
      intro j u hu
      have h0 : 0 < news.length := by
        rcases Nat.eq_zero_or_pos news.length with h0 | h0
        · rw [List.eq_nil_of_length_eq_zero h0] at hu; simp at hu
        · exact h0
      obtain ⟨ad', h, _, hc⟩ := hr h0
      injection h with h
      subst h
      exact hc j u hu
    obtain ⟨v', w', hrun, h2, h3, _, h5⟩ := run_append_own_at (P := P) w base t ty e i z 1 bytes ht hi hz hsize hby hzs (by decide) v n xs hown ad news.length c news (by simp) hcells h1 h63 hbytes hbase
    exact ⟨v', w', hrun, h2, h3, h5⟩
theorem grown_below {w w' : World} {base : Nat} {E : TypeId} {v : Value} {n : Nat} {xs : List Value} (h : w.ownsRow base E 1 v n xs) (hb : base ≤ w.heap.size) (k : w.grownBy w' v.ownBlock) : Below base w w' :=
  (Below.refl base w).grown k hb (fun j hj => (h.lt j hj).1)

theorem within_grown {w w' : World} (k : Within w w') : w.grownBy w' none := ⟨k.os, k.tape, k.output, k.size, fun i hi _ => k.block i hi⟩
/-! appends to rows of bytes and of numbers -/
theorem Tryd.infoU8 : (Tryd.prog.info? 5).map (fun i => (i.zero, i.size, i.bytes)) = some (some (.int .u8 0), 1, 1) := by kernel_rfl
theorem Tryd.infoF64 : (Tryd.prog.info? 75).map (fun i => (i.zero, i.size, i.bytes)) = some (some (.float .f64 0), 1, 8) := by kernel_rfl
/-- a row of bytes of the call's own -/
def OwnB (w : World) (base : Nat) (v : Value) (l : List Nat) : Prop := w.ownsRow base 5 1 v l.length (u8v l)
def OwnF (w : World) (base : Nat) (v : Value) (l : List Nat) : Prop := w.ownsRow base 75 1 v l.length (f64v l)
theorem run_app_u8 (w : World) (base : Nat) (v : Value) (l m : List Nat) (hown : OwnB w base v l) (A : Option Addr) (c : Nat) (hr : SlAt w A (u8v m)) (hl : l.length + m.length ≤ 140737488355328) (hbase : base ≤ w.heap.size) :
    ∃ v' w', (Builtin.append_ #[26, 26] 26 #[v, .slice A m.length c]).run Tryd.prog w = .ok v' w' ∧ OwnB w' base v' (l ++ m) ∧ Below base w w' := by
  obtain ⟨i0, hi0, hz0, hz1, hz2⟩ := info_parts Tryd.infoU8
  obtain ⟨v', w', h1, h2, h3, _⟩ := run_app (P := Tryd.prog) w base 26 26 5 i0 (.int .u8 0) 1 (by kernel_rfl) hi0 hz0 hz1 hz2 rfl v l.length (u8v l) hown A c (u8v m) hr (u8v_one m) (by rw [u8v_len]; unfold maxLen; omega) (by rw [u8v_len]; omega) hbase
  rw [u8v_len] at h1 h2
  refine ⟨v', w', h1, ?_, grown_below hown hbase h3⟩
  unfold OwnB u8v
  rw [List.length_append, List.map_append]; exact h2
theorem run_app_f64 (w : World) (base : Nat) (v : Value) (l m : List Nat) (hown : OwnF w base v l) (A : Option Addr) (c : Nat) (hr : SlAt w A (f64v m)) (hl : (l.length + m.length) * 8 ≤ 140737488355328) (hbase : base ≤ w.heap.size) :
    ∃ v' w', (Builtin.append_ #[27, 27] 27 #[v, .slice A m.length c]).run Tryd.prog w = .ok v' w' ∧ OwnF w' base v' (l ++ m) ∧ Below base w w' := by
  obtain ⟨i0, hi0, hz0, hz1, hz2⟩ := info_parts Tryd.infoF64
  obtain ⟨v', w', h1, h2, h3, _⟩ := run_app (P := Tryd.prog) w base 27 27 75 i0 (.float .f64 0) 8 (by kernel_rfl) hi0 hz0 hz1 hz2 rfl v l.length (f64v l) hown A c (f64v m) hr (f64v_one m) (by rw [f64v_len]; unfold maxLen; omega) (by rw [f64v_len]; omega) hbase
  rw [f64v_len] at h1 h2
  refine ⟨v', w', h1, ?_, grown_below hown hbase h3⟩
  unfold OwnF f64v
  rw [List.length_append, List.map_append]; exact h2
theorem OwnB.form {w : World} {base : Nat} {v : Value} {l : List Nat} (h : OwnB w base v l) : ∃ A c, v = .slice A l.length c ∧ l.length ≤ c ∧ SlAt w A (u8v l) ∧ (∀ ad, A = some ad → base ≤ ad.block) := owns_form h
theorem OwnF.form {w : World} {base : Nat} {v : Value} {l : List Nat} (h : OwnF w base v l) : ∃ A c, v = .slice A l.length c ∧ l.length ≤ c ∧ SlAt w A (f64v l) ∧ (∀ ad, A = some ad → base ≤ ad.block) := owns_form h
theorem OwnB.of {w w' : World} {base : Nat} {v : Value} {l : List Nat} (h : OwnB w base v l) (k : Within w w') : OwnB w' base v l := h.kept (within_grown k) (by cases hv : v.ownBlock <;> simp)
theorem OwnF.of {w w' : World} {base : Nat} {v : Value} {l : List Nat} (h : OwnF w base v l) (k : Within w w') : OwnF w' base v l := h.kept (within_grown k) (by cases hv : v.ownBlock <;> simp)
theorem OwnB.nil_ (w : World) (base : Nat) : OwnB w base (.slice none 0 0) [] := World.ownsRow_nil _ _ _ _
theorem OwnF.nil_ (w : World) (base : Nat) : OwnF w base (.slice none 0 0) [] := World.ownsRow_nil _ _ _ _
/-- an append whose run is known -/
theorem wpList_append_run {P : Program} {w : World} {ops : Array Oper} {rest : List Oper} {o : Oper} {a : Act} {Q : Exit → Act → World → Prop} (hgd : o.guard = none) (s x : Operand) (t : TypeId)
    (ho : o.op = .call { callee := .builtin .append, args := #[s, x], argTypes := #[t, t] }) (vs vx : Value) (hs : a.eval s = vs) (hx : a.eval x = vx) {v' : Value} {w' : World}
    (hrun : (Builtin.append_ #[t, t] o.type #[vs, vx]).run P w = .ok v' w') (h : wpList P ops Q rest (a.put o.dst v') w') : wpList P ops Q (o :: rest) a w :=
  wpList_plain hgd fun K hK => by
    unfold Oper.wp execOp
    simp only [ho, resolve, invoke, builtin, Sem.run_bind, Sem.run_pure, Result.andThen_ok, List.map_toArray, List.map_cons, List.map_nil, hs, hx, hrun]
    exact hK _ _ h
/-- one new cell -/
theorem SlAt.one (w : World) (u : Value) (E : TypeId) : SlAt (w.alloc (.cells #[u] E)) (some ⟨w.heap.size, 0, none⟩) [u] := fun _ => by
  refine ⟨_, rfl, by simp, fun j v hv => ?_⟩
  cases j with
  | zero =>
    simp at hv
    subst hv
    rw [add_nought, World.cell?_alloc_at _ _ _ _ rfl]; rfl
  | succ j => simp at hv
/-- one byte more on a row of the call's own -/
theorem run_app_byte (w : World) (base : Nat) (v : Value) (l : List Nat) (x : Nat) (hown : OwnB w base v l) (hl : l.length + 1 ≤ 140737488355328) (hbase : base ≤ w.heap.size) :
    ∃ v' w', (Builtin.append_ #[26, 26] 26 #[v, .slice (some ⟨w.heap.size, 0, none⟩) 1 1]).run Tryd.prog (w.alloc (.cells #[.int .u8 (x : Int)] 5)) = .ok v' w' ∧ OwnB w' base v' (l ++ [x]) ∧ Below base w w' := by
  obtain ⟨v', w', h1, h2, h3⟩ := run_app_u8 (w.alloc (.cells #[.int .u8 (x : Int)] 5)) base v l [x] (hown.of ((Within.refl w).alloc _)) (some ⟨w.heap.size, 0, none⟩) 1 (SlAt.one w _ _) hl (by simp; omega)
  exact ⟨v', w', h1, h2, ((Below.refl base w).alloc hbase _).trans h3⟩
theorem run_app_float (w : World) (base : Nat) (v : Value) (l : List Nat) (x : Nat) (hown : OwnF w base v l) (hl : (l.length + 1) * 8 ≤ 140737488355328) (hbase : base ≤ w.heap.size) :
    ∃ v' w', (Builtin.append_ #[27, 27] 27 #[v, .slice (some ⟨w.heap.size, 0, none⟩) 1 1]).run Tryd.prog (w.alloc (.cells #[.float .f64 x] 75)) = .ok v' w' ∧ OwnF w' base v' (l ++ [x]) ∧ Below base w w' := by
  obtain ⟨v', w', h1, h2, h3⟩ := run_app_f64 (w.alloc (.cells #[.float .f64 x] 75)) base v l [x] (hown.of ((Within.refl w).alloc _)) (some ⟨w.heap.size, 0, none⟩) 1 (SlAt.one w _ _) hl (by simp; omega)
  exact ⟨v', w', h1, h2, ((Below.refl base w).alloc hbase _).trans h3⟩
theorem owns_less {w : World} {base base' : Nat} {E : TypeId} {v : Value} {n : Nat} {xs : List Value} (h : w.ownsRow base E 1 v n xs) (k : base' ≤ base) : w.ownsRow base' E 1 v n xs := by
  refine ⟨h.1, ?_⟩
  rcases h.2 with h2 | ⟨g, cap, cur, h1, hb, h3⟩
  · exact .inl h2
  · exact .inr ⟨g, cap, cur, h1, Nat.le_trans k hb, h3⟩
theorem OwnF.less {w : World} {base base' : Nat} {v : Value} {l : List Nat} (h : OwnF w base v l) (k : base' ≤ base) : OwnF w base' v l := owns_less h k
theorem OwnB.less {w : World} {base base' : Nat} {v : Value} {l : List Nat} (h : OwnB w base v l) (k : base' ≤ base) : OwnB w base' v l := owns_less h k
theorem OwnF.set {w : World} {base : Nat} {v : Value} {l : List Nat} (h : OwnF w base v l) {p : Addr} (hp : p.block < base) (u : Value) : OwnF (w.setCell p u) base v l := ownsRow_setCell_below h hp u
theorem OwnB.set {w : World} {base : Nat} {v : Value} {l : List Nat} (h : OwnB w base v l) {p : Addr} (hp : p.block < base) (u : Value) : OwnB (w.setCell p u) base v l := ownsRow_setCell_below h hp u
/-- an append whose run is known, standing alone -/
theorem op_append_run {P : Program} {w : World} {o : Oper} {a : Act} {K : Act → World → Prop} {Q : Exit → Act → World → Prop} (s x : Operand) (t : TypeId)
    (ho : o.op = .call { callee := .builtin .append, args := #[s, x], argTypes := #[t, t] }) (vs vx : Value) (hs : a.eval s = vs) (hx : a.eval x = vx) {v' : Value} {w' : World}
    (hrun : (Builtin.append_ #[t, t] o.type #[vs, vx]).run P w = .ok v' w') (h : K (a.put o.dst v') w') : o.wp P a w K Q := by
  unfold Oper.wp execOp
  simp only [ho, resolve, invoke, builtin, Sem.run_bind, Sem.run_pure, Result.andThen_ok, List.map_toArray, List.map_cons, List.map_nil, hs, hx, hrun]
  exact h
theorem SlAt.one_drew (w : World) (u : Value) (E : TypeId) : SlAt (w.alloc (.cells #[u] E)).drew (some ⟨w.heap.size, 0, none⟩) [u] := (SlAt.one w u E).of ((Within.refl _).drew)
theorem run_app_float_drew (w : World) (base : Nat) (v : Value) (l : List Nat) (x : Nat) (hown : OwnF w base v l) (hl : (l.length + 1) * 8 ≤ 140737488355328) (hbase : base ≤ w.heap.size) :
    ∃ v' w', (Builtin.append_ #[27, 27] 27 #[v, .slice (some ⟨w.heap.size, 0, none⟩) 1 1]).run Tryd.prog (w.alloc (.cells #[.float .f64 x] 75)).drew = .ok v' w' ∧ OwnF w' base v' (l ++ [x]) ∧ Below base w w' := by
  obtain ⟨v', w', h1, h2, h3⟩ := run_app_f64 (w.alloc (.cells #[.float .f64 x] 75)).drew base v l [x] (hown.of (((Within.refl w).alloc _).drew)) (some ⟨w.heap.size, 0, none⟩) 1 (SlAt.one_drew w _ _) hl (by show base ≤ (w.alloc _).heap.size; simp; omega)
  exact ⟨v', w', h1, h2, (((Below.refl base w).alloc hbase _).drew).trans h3⟩
end Go.Proofs.YtmpcnhiklpahnaaDoor
