/- Packets: frames read: walks. -/
import Derived.Test.YtmpcnhiklpahnaaDoorPk5
import Derived.IntWalk
namespace Go.Proofs.YtmpcnhiklpahnaaDoor
open Go.RowKit

set_option maxRecDepth 100000 in
set_option maxHeartbeats 600000 in
theorem Unpack_head (A : Option Addr) (c : Nat) (l : List Nat) (n : Int) (SZ : Hid (∀ w, SlAt w A (u8v l) → Calls Tryd.prog 44 #[.slice A l.length c] w fun e w' => e = .returned (.tuple #[.int .i64 n, .bool false]) ∧ w = w')) (w : World) (hr : SlAt w A (u8v l)) : Calls Tryd.prog 23 #[.slice A l.length c] w fun e w' => e = .returned (.tuple #[.agg #[.int .i64 0, .int .u32 0, .int .u32 0, .slice none 0 0], .int .i64 211]) ∧ Within w w' := by
  have HR := Lib.hid hr; clear hr
  go_enter Tryd.func23, Tryd.ntmps23
  go_wp2_with fail
  refine (SZ.out _ (HR.out.of (by repeat (first | with_reducible exact Within.refl _ | with_reducible assumption | with_reducible refine Within.alloc ?_ _ | with_reducible refine Within.drew ?_ | with_reducible refine Within.drewN ?_ _ | with_reducible refine Within.setCell ?_ (by first | (simp; done) | (simp; omega)) _ | with_reducible refine Within.trans ?_ (by assumption))))).mono ?_; rintro e1 w1 ⟨rfl, rfl⟩
  go_wp2
  refine bodyPost_ret (v := .tuple #[.agg #[.int .i64 0, .int .u32 0, .int .u32 0, .slice none 0 0], .int .i64 211]) (by simp [results, Tryd.results23, go_sem]) rfl ⟨rfl, (by repeat (first | with_reducible exact Within.refl _ | with_reducible assumption | with_reducible refine Within.alloc ?_ _ | with_reducible refine Within.drew ?_ | with_reducible refine Within.drewN ?_ _ | with_reducible refine Within.setCell ?_ (by first | (simp; done) | (simp; omega)) _ | with_reducible refine Within.trans ?_ (by assumption)))⟩

set_option maxRecDepth 100000 in
set_option maxHeartbeats 600000 in
theorem Unpack_few (A : Option Addr) (c : Nat) (l : List Nat) (n : Int) (h : l.length < 4) (SZ : Hid (∀ w, SlAt w A (u8v l) → Calls Tryd.prog 44 #[.slice A l.length c] w fun e w' => e = .returned (.tuple #[.int .i64 n, .bool true]) ∧ w = w')) (w : World) (hr : SlAt w A (u8v l)) : Calls Tryd.prog 23 #[.slice A l.length c] w fun e w' => e = .returned (.tuple #[.agg #[.int .i64 0, .int .u32 0, .int .u32 0, .slice none 0 0], .int .i64 211]) ∧ Within w w' := by
  have HR := Lib.hid hr; clear hr
  go_enter Tryd.func23, Tryd.ntmps23
  go_wp2_with fail
  refine (SZ.out _ (HR.out.of (by repeat (first | with_reducible exact Within.refl _ | with_reducible assumption | with_reducible refine Within.alloc ?_ _ | with_reducible refine Within.drew ?_ | with_reducible refine Within.drewN ?_ _ | with_reducible refine Within.setCell ?_ (by first | (simp; done) | (simp; omega)) _ | with_reducible refine Within.trans ?_ (by assumption))))).mono ?_; rintro e1 w1 ⟨rfl, rfl⟩
  go_wp2
  refine bodyPost_ret (v := .tuple #[.agg #[.int .i64 0, .int .u32 0, .int .u32 0, .slice none 0 0], .int .i64 211]) (by simp [results, Tryd.results23, go_sem]) rfl ⟨rfl, (by repeat (first | with_reducible exact Within.refl _ | with_reducible assumption | with_reducible refine Within.alloc ?_ _ | with_reducible refine Within.drew ?_ | with_reducible refine Within.drewN ?_ _ | with_reducible refine Within.setCell ?_ (by first | (simp; done) | (simp; omega)) _ | with_reducible refine Within.trans ?_ (by assumption)))⟩

set_option maxRecDepth 100000 in
set_option maxHeartbeats 600000 in
theorem Unpack_long (A : Option Addr) (c : Nat) (l : List Nat) (n : Int) (h : 4 ≤ l.length) (hl : l.length ≤ 1152921504606846976) (hn : ((l.length : Int) != n) = true) (SZ : Hid (∀ w, SlAt w A (u8v l) → Calls Tryd.prog 44 #[.slice A l.length c] w fun e w' => e = .returned (.tuple #[.int .i64 n, .bool true]) ∧ w = w')) (w : World) (hr : SlAt w A (u8v l)) : Calls Tryd.prog 23 #[.slice A l.length c] w fun e w' => e = .returned (.tuple #[.agg #[.int .i64 0, .int .u32 0, .int .u32 0, .slice none 0 0], .int .i64 211]) ∧ Within w w' := by
  have HR := Lib.hid hr; clear hr
  go_enter Tryd.func23, Tryd.ntmps23
  go_wp2_with fail
  refine (SZ.out _ (HR.out.of (by repeat (first | with_reducible exact Within.refl _ | with_reducible assumption | with_reducible refine Within.alloc ?_ _ | with_reducible refine Within.drew ?_ | with_reducible refine Within.drewN ?_ _ | with_reducible refine Within.setCell ?_ (by first | (simp; done) | (simp; omega)) _ | with_reducible refine Within.trans ?_ (by assumption))))).mono ?_; rintro e1 w1 ⟨rfl, rfl⟩
  go_wp2
  refine bodyPost_ret (v := .tuple #[.agg #[.int .i64 0, .int .u32 0, .int .u32 0, .slice none 0 0], .int .i64 211]) (by simp [results, Tryd.results23, go_sem]) rfl ⟨rfl, (by repeat (first | with_reducible exact Within.refl _ | with_reducible assumption | with_reducible refine Within.alloc ?_ _ | with_reducible refine Within.drew ?_ | with_reducible refine Within.drewN ?_ _ | with_reducible refine Within.setCell ?_ (by first | (simp; done) | (simp; omega)) _ | with_reducible refine Within.trans ?_ (by assumption)))⟩

set_option maxRecDepth 100000 in
set_option maxHeartbeats 1000000 in
theorem Unpack_sum (ad : Addr) (c m : Nat) (l : List Nat) (hm : 12 ≤ m ∧ m ≤ 60) (hc : m + 4 ≤ c) (SZ : Hid (∀ w, SlAt w (some ad) (u8v l) → Calls Tryd.prog 44 #[.slice (some ad) (m + 4) c] w fun e w' => e = .returned (.tuple #[.int .i64 ((m + 4 : Nat) : Int), .bool true]) ∧ w = w')) (G C : Nat) (hC : C < 4294967296) (GT : Hid (∀ w, SlAt w (some ad) (u8v l) → Calls Tryd.prog 45 #[.slice (some (ad.add m)) 4 (c - m)] w fun e w' => e = .returned (.int .u64 (G : Int)) ∧ w = w')) (SM : Hid (∀ w, SlAt w (some ad) (u8v l) → Calls Tryd.prog 19 #[.slice (some ad) m c] w fun e w' => e = .returned (.int .u32 (C : Int)) ∧ w = w')) (hs : ((G : Int) != (C : Int)) = true) (w : World) (hr : SlAt w (some ad) (u8v l)) : Calls Tryd.prog 23 #[.slice (some ad) (m + 4) c] w fun e w' => e = .returned (.tuple #[.agg #[.int .i64 0, .int .u32 0, .int .u32 0, .slice none 0 0], .int .i64 212]) ∧ Within w w' := by
  have HR := Lib.hid hr; clear hr
  obtain ⟨m1, m2⟩ := hm
  have hn0 : (((m + 4 : Nat) : Int) != ((m + 4 : Nat) : Int)) = false := by rw [bne_eq_false_iff_eq]
  have d4 : decide ((m : Int) + 4 < 4) = false := decide_eq_false (by omega)
  have w4 : IntKind.i64.wrap (m : Int) = (m : Int) := by rw [IntKind.wrap_i64]; omega
  have hcm : ¬ c = m := by omega
  have hle : (m : Int) ≤ (m : Int) + 4 := by omega
  have hmc : m ≤ c := by omega
  have gC : IntKind.u64.wrap (C : Int) = (C : Int) := by rw [IntKind.wrap_u64]; omega
  clear hC
  go_enter Tryd.func23, Tryd.ntmps23
  go_wp2_with fail
  refine (SZ.out _ (HR.out.of (by repeat (first | with_reducible exact Within.refl _ | with_reducible assumption | with_reducible refine Within.alloc ?_ _ | with_reducible refine Within.drew ?_ | with_reducible refine Within.drewN ?_ _ | with_reducible refine Within.setCell ?_ (by first | (simp; done) | (simp; omega)) _ | with_reducible refine Within.trans ?_ (by assumption))))).mono ?_; rintro e1 w1 ⟨rfl, rfl⟩
  go_wp2
  refine wp_region_within (by kernel_rfl) (by kernel_rfl) ?_
  repeat
    apply wpq_step rfl
    · intro wq hCq
      have hsl := HR.out.of ((((Within.refl w).alloc _).trans hCq))
      go_simp
      first | rfl | exact hCq.same (GT.out _ hsl) | exact hCq.same (SM.out _ hsl) | (trace_state; fail)
    try simp only [Act.put, List.setIfInBounds_toArray, List.set_cons_zero, List.set_cons_succ]
  refine wpQuiet_nil ?_
  intro w3 hb3
  have q0 : w3.cell? ⟨w.heap.size, 0, none⟩ = some (.int .i64 0) := (hb3.cells _ _ (by simp)).trans (by simp)
  have q1 : w3.cell? ⟨w.heap.size, 1, none⟩ = some (.int .u32 0) := (hb3.cells _ _ (by simp)).trans (by simp)
  have q2 : w3.cell? ⟨w.heap.size, 2, none⟩ = some (.int .u32 0) := (hb3.cells _ _ (by simp)).trans (by simp)
  have q3 : w3.cell? ⟨w.heap.size, 3, none⟩ = some (.slice none 0 0) := (hb3.cells _ _ (by simp)).trans (by simp)
  have qf : ∀ o, w3.frozen? ⟨w.heap.size, o, none⟩ = false := fun o => (hb3.frozens _ _ (by simp)).trans (by simp)
  have qz : w.heap.size < w3.heap.size := World.block_lt_of_cell? _ _ q0
  go_wp2
  refine bodyPost_ret (v := .tuple #[.agg #[.int .i64 0, .int .u32 0, .int .u32 0, .slice none 0 0], .int .i64 212]) (by simp [results, Tryd.results23, go_sem, q0, q1, q2, q3]) rfl ⟨rfl, (by repeat (first | with_reducible exact Within.refl _ | with_reducible assumption | with_reducible refine Within.alloc ?_ _ | with_reducible refine Within.drew ?_ | with_reducible refine Within.drewN ?_ _ | with_reducible refine Within.setCell ?_ (by first | (simp; done) | (simp; omega)) _ | with_reducible refine Within.trans ?_ (by assumption)))⟩

/-- so many bytes at a place: a number -/
theorem get_at (ad : Addr) (_c k n : Nat) (l : List Nat) (hb : Bytes l) (hn : n ≤ 8) (hk : k + n ≤ l.length) (C : Nat) (w : World) (hr : SlAt w (some ad) (u8v l)) : Calls Tryd.prog 45 #[.slice (some (ad.add k)) n C] w fun e w' => e = .returned (.int .u64 (leVal ((l.drop k).take n) : Int)) ∧ w = w' := by
  have h1 := hr.drop k
  have h2 : SlAt w (some (ad.add k)) (u8v ((l.drop k).take n)) := by
    have := h1.take n
    unfold u8v at this ⊢
    rwa [← List.map_drop, ← List.map_take] at this
  have h3 : ((l.drop k).take n).length = n := by rw [List.length_take, List.length_drop]; omega
  have := get_any (some (ad.add k)) C _ ((hb.drop k).take n) (by omega) w h2
  rwa [h3] at this

/-- returned: a reading and an error, the values in memory of its own -/
def RetR (W : World) (rd : Rd) (er : Int) (e : Ending) (w' : World) : Prop := ∃ v, e = .returned (.tuple #[.agg #[.int .i64 (rd.sensor : Int), .int .u32 (rd.seq : Int), .int .u32 (rd.stamp : Int), v], .int .i64 er]) ∧ OwnF w' W.heap.size v rd.vals ∧ Within W w'
def noRd : Rd := ⟨0, 0, 0, []⟩
theorem map_all {p : Nat → Bool} (hp : ∀ x y, canonD x = canonD y → p x = p y) : ∀ {l m : List Nat}, l.map canonD = m.map canonD → l.all p = m.all p
  | [], [], _ => rfl
  | [], _ :: _, h => by simp at h
  | _ :: _, [], h => by simp at h
  | x :: l, y :: m, h => by
    simp only [List.map_cons, List.cons.injEq] at h
    rw [List.all_cons, List.all_cons, hp x y h.1, map_all hp h.2]
theorem map_fin : ∀ {l m : List Nat}, l.map canonD = m.map canonD → l.all finD = true → m.all finD = true → l = m
  | [], [], _, _, _ => rfl
  | [], _ :: _, h, _, _ => by simp at h
  | _ :: _, [], h, _, _ => by simp at h
  | x :: l, y :: m, h, h1, h2 => by
    simp only [List.map_cons, List.cons.injEq] at h
    rw [List.all_cons, Bool.and_eq_true] at h1 h2
    have := h.1
    rw [canonD_fin h1.1, canonD_fin h2.1] at this
    rw [this, map_fin h.2 h1.2 h2.2]
/-- the values' loop at its head: v: what is still to be read -/
def UnRel (W3 : World) (d : List Nat) (wide : Bool) (n S q t : Nat) (vv : Value) (wr : World) : Prop :=
  ∃ (k : Nat) (A' : Option Addr) (c' : Nat) (vs : List Nat) (sl : Value), k ≤ n ∧ vv = .slice A' (stp wide * (n - k)) c' ∧ stp wide * (n - k) ≤ c' ∧ SlAt W3 A' (u8v (d.drop (stp wide * k))) ∧
    vs.map canonD = (rdVals pf wide k d).map canonD ∧ Words64 vs ∧ OwnF wr (W3.heap.size + 1) sl vs ∧ wr.cell? ⟨W3.heap.size, 0, none⟩ = some (.int .i64 (S : Int)) ∧ wr.cell? ⟨W3.heap.size, 1, none⟩ = some (.int .u32 (q : Int)) ∧
    wr.cell? ⟨W3.heap.size, 2, none⟩ = some (.int .u32 (t : Int)) ∧ wr.cell? ⟨W3.heap.size, 3, none⟩ = some sl ∧ (∀ o, wr.frozen? ⟨W3.heap.size, o, none⟩ = false) ∧ Within W3 wr
def restLen : Value → Nat
  | .slice _ n _ => n
  | _ => 0
theorem UnRel.step {W3 w' : World} {d : List Nat} {wide : Bool} {n S q t k : Nat} {A1 : Option Addr} {c1 x : Nat} {vs : List Nat} {sl' : Value} (hk : k < n) (hc : stp wide * (n - (k + 1)) ≤ c1) (hat : SlAt W3 A1 (u8v (d.drop (stp wide * (k + 1)))))
    (hvs : vs.map canonD = (rdVals pf wide k d).map canonD) (hx : canonD x = canonD (if wide then leVal ((d.drop (stp wide * k)).take 8) else pf.wb (leVal ((d.drop (stp wide * k)).take 4)))) (hx2 : x < 18446744073709551616) (hw : Words64 vs)
    (hown : OwnF w' (W3.heap.size + 1) sl' (vs ++ [x])) (h0 : w'.cell? ⟨W3.heap.size, 0, none⟩ = some (.int .i64 (S : Int))) (h1 : w'.cell? ⟨W3.heap.size, 1, none⟩ = some (.int .u32 (q : Int))) (h2 : w'.cell? ⟨W3.heap.size, 2, none⟩ = some (.int .u32 (t : Int)))
    (h3 : (w'.cell? ⟨W3.heap.size, 3, none⟩).isSome = true) (hf : ∀ o, w'.frozen? ⟨W3.heap.size, o, none⟩ = false) (hb : Within W3 w') :
    UnRel W3 d wide n S q t (.slice A1 (stp wide * (n - (k + 1))) c1) (w'.setCell ⟨W3.heap.size, 3, none⟩ sl') := by
  obtain ⟨u, hu⟩ := Option.isSome_iff_exists.1 h3
  refine ⟨k + 1, A1, c1, vs ++ [x], sl', hk, rfl, hc, hat, ?_, ?_, hown.set (by show W3.heap.size < _; omega) _, ?_, ?_, ?_, World.cell?_setCell_same _ _ _ hu, fun o => ?_, hb.setCell (Nat.le_refl _) _⟩
  · rw [rdVals_snoc, List.map_append, List.map_append, hvs, List.map_singleton, List.map_singleton, hx]
  · intro y hy
    rcases List.mem_append.1 hy with h | h
    · exact hw y h
    · rw [List.mem_singleton] at h; rw [h]; exact hx2
  · rw [World.cell?_setCell_other _ _ _ _ (by simp)]; exact h0
  · rw [World.cell?_setCell_other _ _ _ _ (by simp)]; exact h1
  · rw [World.cell?_setCell_other _ _ _ _ (by simp)]; exact h2
  · rw [World.frozen?_setCell]; exact hf o

end Go.Proofs.YtmpcnhiklpahnaaDoor
