/- Packets: the reference reads frames: walks. -/
import Derived.Test.YtmpcnhiklpahnaaDoorPk8
import Derived.IntWalk
namespace Go.Proofs.YtmpcnhiklpahnaaDoor
open Go.RowKit

set_option maxRecDepth 100000 in
set_option maxHeartbeats 1000000 in
theorem Runpack_sum (ad : Addr) (c m K : Nat) (l : List Nat) (hm : 12 ≤ m ∧ m ≤ 60) (hc : m + 4 ≤ c) (RH : Hid (∀ w, SlAt w (some ad) (u8v l) → Calls Tryd.prog 48 #[.slice (some ad) (m + 4) c] w fun e w' => e = .returned (.bool true) ∧ w = w')) (RS : Hid (∀ w, Calls Tryd.prog 49 #[.int .u8 (K : Int)] w fun e w' => e = .returned (.int .i64 ((m + 4 : Nat) : Int)) ∧ w = w')) (h3 : ∀ w, SlAt w (some ad) (u8v l) → w.cell? ⟨ad.block, ad.off + 3, none⟩ = some (.int .u8 (K : Int))) (G C : Nat) (hC : C < 4294967296) (GT : Hid (∀ w, SlAt w (some ad) (u8v l) → Calls Tryd.prog 50 #[.slice (some (ad.add m)) 4 (c - m)] w fun e w' => e = .returned (.int .u64 (G : Int)) ∧ w = w')) (SM : Hid (∀ w, SlAt w (some ad) (u8v l) → Calls Tryd.prog 20 #[.slice (some ad) m c] w fun e w' => e = .returned (.int .u32 (C : Int)) ∧ w = w')) (hs : ((C : Int) != (G : Int)) = true) (w : World) (hr : SlAt w (some ad) (u8v l)) : Calls Tryd.prog 24 #[.slice (some ad) (m + 4) c] w fun e w' => e = .returned (.tuple #[.agg #[.int .i64 0, .int .u32 0, .int .u32 0, .slice none 0 0], .int .i64 212]) ∧ Within w w' := by
  have HR := Lib.hid hr; clear hr
  have HH3 := Lib.hid h3; clear h3
  obtain ⟨m1, m2⟩ := hm
  have hn0 : (((m + 4 : Nat) : Int) != ((m + 4 : Nat) : Int)) = false := by rw [bne_eq_false_iff_eq]
  have hn1 : ((m : Int) + 4 != (m : Int) + 4) = false := by rw [bne_eq_false_iff_eq]
  have d4 : decide ((m : Int) + 4 < 4) = false := decide_eq_false (by omega)
  have l3 : (3 : Int) < (m : Int) + 4 := by omega
  have w4 : IntKind.i64.wrap (m : Int) = (m : Int) := by rw [IntKind.wrap_i64]; omega
  have hcm : ¬ c = m := by omega
  have hle : (m : Int) ≤ (m : Int) + 4 := by omega
  have hmc : m ≤ c := by omega
  have gC : IntKind.u64.wrap (C : Int) = (C : Int) := by rw [IntKind.wrap_u64]; omega
  clear hC
  go_enter Tryd.func24, Tryd.ntmps24
  go_wp2_with fail
  have hw1 := HR.out.of ((Within.refl w).alloc (.cells #[.int .i64 0, .int .u32 0, .int .u32 0, .slice none 0 0] 29))
  have k3 := HH3.out _ hw1
  refine (RH.out _ hw1).mono ?_; rintro e1 w1 ⟨rfl, rfl⟩
  go_wp2_with fail
  refine (RS.out _).mono ?_; rintro e2 w2 ⟨rfl, rfl⟩
  clear k3
  go_wp2
  refine wp_region_within (by kernel_rfl) (by kernel_rfl) ?_
  repeat
    apply wpq_step rfl
    · intro wq hCq
      have hsl := HR.out.of ((((Within.refl w).alloc _).trans hCq))
      go_simp
      first | rfl | exact hCq.same (GT.out _ hsl) | exact hCq.same (SM.out _ hsl) | (trace_state; fail)
    try simp only [Act.put, List.setIfInBounds_toArray, List.set_cons_zero, List.set_cons_succ]
  refine wpQuiet_nil ?_
  intro w3 hb3
  have q0 : w3.cell? ⟨w.heap.size, 0, none⟩ = some (.int .i64 0) := (hb3.cells _ _ (by simp)).trans (by simp)
  have q1 : w3.cell? ⟨w.heap.size, 1, none⟩ = some (.int .u32 0) := (hb3.cells _ _ (by simp)).trans (by simp)
  have q2 : w3.cell? ⟨w.heap.size, 2, none⟩ = some (.int .u32 0) := (hb3.cells _ _ (by simp)).trans (by simp)
  have q3 : w3.cell? ⟨w.heap.size, 3, none⟩ = some (.slice none 0 0) := (hb3.cells _ _ (by simp)).trans (by simp)
  have qf : ∀ o, w3.frozen? ⟨w.heap.size, o, none⟩ = false := fun o => (hb3.frozens _ _ (by simp)).trans (by simp)
  have qz : w.heap.size < w3.heap.size := World.block_lt_of_cell? _ _ q0
  go_wp2
  refine bodyPost_ret (v := .tuple #[.agg #[.int .i64 0, .int .u32 0, .int .u32 0, .slice none 0 0], .int .i64 212]) (by simp [results, Tryd.results24, go_sem, q0, q1, q2, q3]) rfl ⟨rfl, (by repeat (first | with_reducible exact Within.refl _ | with_reducible assumption | with_reducible refine Within.alloc ?_ _ | with_reducible refine Within.drew ?_ | with_reducible refine Within.drewN ?_ _ | with_reducible refine Within.setCell ?_ (by first | (simp; done) | (simp; omega)) _ | with_reducible refine Within.trans ?_ (by assumption)))⟩

theorem Rtake_at (ad : Addr) (_c k n : Nat) (l : List Nat) (hb : Bytes l) (hn : n ≤ 8) (hk : k + n ≤ l.length) (C : Nat) (w : World) (hr : SlAt w (some ad) (u8v l)) : Calls Tryd.prog 50 #[.slice (some (ad.add k)) n C] w fun e w' => e = .returned (.int .u64 (leVal ((l.drop k).take n) : Int)) ∧ w = w' := by
  have h1 := hr.drop k
  have h2 : SlAt w (some (ad.add k)) (u8v ((l.drop k).take n)) := by
    have := h1.take n
    unfold u8v at this ⊢
    rwa [← List.map_drop, ← List.map_take] at this
  have h3 : ((l.drop k).take n).length = n := by rw [List.length_take, List.length_drop]; omega
  have := Rtake_any (some (ad.add k)) C _ ((hb.drop k).take n) (by omega) w h2
  rwa [h3] at this
/-- the values' loop at its head, by the place that is read next -/
def RunRel (W3 : World) (d : List Nat) (wide : Bool) (n S q t : Nat) (vv : Value) (wr : World) : Prop :=
  ∃ (k a : Nat) (vs : List Nat) (sl : Value), k ≤ n ∧ vv = .int .i64 (a : Int) ∧ a = 12 + stp wide * k ∧
    vs.map canonD = (rdVals pf wide k d).map canonD ∧ Words64 vs ∧ OwnF wr (W3.heap.size + 1) sl vs ∧ wr.cell? ⟨W3.heap.size, 0, none⟩ = some (.int .i64 (S : Int)) ∧ wr.cell? ⟨W3.heap.size, 1, none⟩ = some (.int .u32 (q : Int)) ∧
    wr.cell? ⟨W3.heap.size, 2, none⟩ = some (.int .u32 (t : Int)) ∧ wr.cell? ⟨W3.heap.size, 3, none⟩ = some sl ∧ (∀ o, wr.frozen? ⟨W3.heap.size, o, none⟩ = false) ∧ Within W3 wr
theorem RunRel.step {W3 w' : World} {d : List Nat} {wide : Bool} {n S q t k a : Nat} {x : Nat} {vs : List Nat} {sl' : Value} (hk : k < n) (ha : a = 12 + stp wide * (k + 1))
    (hvs : vs.map canonD = (rdVals pf wide k d).map canonD) (hx : canonD x = canonD (if wide then leVal ((d.drop (stp wide * k)).take 8) else pf.wb (leVal ((d.drop (stp wide * k)).take 4)))) (hx2 : x < 18446744073709551616) (hw : Words64 vs)
    (hown : OwnF w' (W3.heap.size + 1) sl' (vs ++ [x])) (h0 : w'.cell? ⟨W3.heap.size, 0, none⟩ = some (.int .i64 (S : Int))) (h1 : w'.cell? ⟨W3.heap.size, 1, none⟩ = some (.int .u32 (q : Int))) (h2 : w'.cell? ⟨W3.heap.size, 2, none⟩ = some (.int .u32 (t : Int)))
    (h3 : (w'.cell? ⟨W3.heap.size, 3, none⟩).isSome = true) (hf : ∀ o, w'.frozen? ⟨W3.heap.size, o, none⟩ = false) (hb : Within W3 w') :
    RunRel W3 d wide n S q t (.int .i64 (a : Int)) (w'.setCell ⟨W3.heap.size, 3, none⟩ sl') := by
  obtain ⟨u, hu⟩ := Option.isSome_iff_exists.1 h3
  refine ⟨k + 1, a, vs ++ [x], sl', hk, rfl, ha, ?_, ?_, hown.set (by show W3.heap.size < _; omega) _, ?_, ?_, ?_, World.cell?_setCell_same _ _ _ hu, fun o => ?_, hb.setCell (Nat.le_refl _) _⟩
  · rw [rdVals_snoc, List.map_append, List.map_append, hvs, List.map_singleton, List.map_singleton, hx]
  · intro y hy
    rcases List.mem_append.1 hy with h | h
    · exact hw y h
    · rw [List.mem_singleton] at h; rw [h]; exact hx2
  · rw [World.cell?_setCell_other _ _ _ _ (by simp)]; exact h0
  · rw [World.cell?_setCell_other _ _ _ _ (by simp)]; exact h1
  · rw [World.cell?_setCell_other _ _ _ _ (by simp)]; exact h2
  · rw [World.frozen?_setCell]; exact hf o
def upTo (m : Nat) : Value → Nat
  | .int _ x => m - x.toNat
  | _ => 0

end Go.Proofs.YtmpcnhiklpahnaaDoor
