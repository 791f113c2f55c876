/- What the law's walk rests on, part 7: contracts of functions and plain facts. -/
import Derived.Test.YtgkcpnidmfejeaaGreatDoorZEnc6
set_option linter.unusedVariables false
set_option linter.unusedSimpArgs false
set_option maxRecDepth 100000
set_option maxHeartbeats 4000000
namespace Go.Proofs.YtgkcpnidmfejeaaGreatDoor
open Go.RowKit
def StW (w wx : World) (b2 b4 b5 b6 bz b7 : Nat) (K : Int) (xa la ha : Nat) (ra : Option Addr) (ka fa : Bool) (xb lb hb : Nat) (rb : Option Addr) (kb fb : Bool) (v0 v1 v2 v3 v4 v5 : Value) : Prop :=
 wx.cell? ⟨b2, 0, none⟩ = some (.int .i64 K) ∧ wx.heap[b4]? = some (.cells #[.float .f64 0, .float .f64 0, .float .f64 0, .pointer none, .bool false, .bool false] 33 (0, 0)) ∧ wx.heap[b5]? = some (.cells #[.float .f64 xa, .float .f64 la, .float .f64 ha, .pointer ra, .bool ka, .bool fa] 33 (0, 0)) ∧ wx.heap[b6]? = some (.cells #[.float .f64 xb, .float .f64 lb, .float .f64 hb, .pointer rb, .bool kb, .bool fb] 33 (0, 0)) ∧ RatTy wx bz ∧ wx.heap[b7]? = some (.cells #[v0, v1, v2, v3, v4, v5] 33 (0, 0)) ∧ Within w wx ∧
 (w.heap.size ≤ b4 ∧ w.heap.size ≤ bz ∧ w.heap.size ≤ b7 ∧ b7 ≠ b2 ∧ b7 ≠ b4 ∧ b7 ≠ b5 ∧ b7 ≠ b6 ∧ bz ≠ b2 ∧ bz ≠ b4 ∧ bz ≠ b5 ∧ bz ≠ b6 ∧ bz ≠ b7)
theorem StW.of {w wx wy : World} {b2 b4 b5 b6 bz b7 : Nat} {K : Int} {xa la ha : Nat} {ra : Option Addr} {ka fa : Bool} {xb lb hb : Nat} {rb : Option Addr} {kb fb : Bool} {v0 v1 v2 v3 v4 v5 : Value} (h : StW w wx b2 b4 b5 b6 bz b7 K xa la ha ra ka fa xb lb hb rb kb fb v0 v1 v2 v3 v4 v5) (k : Within wx wy) : StW w wy b2 b4 b5 b6 bz b7 K xa la ha ra ka fa xb lb hb rb kb fb v0 v1 v2 v3 v4 v5 := by
 obtain ⟨h1, h2, h3, h4, h5, h6, h7, h8⟩ := h
 exact ⟨(k.cells _ _ (World.block_lt_of_cell? _ _ h1)).trans h1, (k.block _ (heap_lt h2)).trans h2, (k.block _ (heap_lt h3)).trans h3, (k.block _ (heap_lt h4)).trans h4, h5.of k, (k.block _ (heap_lt h6)).trans h6, h7.trans k, h8⟩
theorem cell_other {w : World} {z b i : Nat} {v : Value} (h : z ≠ b) (o : Nat) : (w.setCell ⟨b, i, none⟩ v).cell? ⟨z, o, none⟩ = w.cell? ⟨z, o, none⟩ := by
 unfold World.cell?
 rw [Below.heap_setCell _ _ _ _ h]
theorem StW.grown {w wx wy : World} {b2 b4 b5 b6 bz b7 : Nat} {K : Int} {xa la ha : Nat} {ra : Option Addr} {ka fa : Bool} {xb lb hb : Nat} {rb : Option Addr} {kb fb : Bool} {v0 v1 v2 v3 v4 v5 : Value} (h : StW w wx b2 b4 b5 b6 bz b7 K xa la ha ra ka fa xb lb hb rb kb fb v0 v1 v2 v3 v4 v5) (hz' : RatTy wy bz) (k : wx.grownBy wy (some bz)) : StW w wy b2 b4 b5 b6 bz b7 K xa la ha ra ka fa xb lb hb rb kb fb v0 v1 v2 v3 v4 v5 := by
 obtain ⟨h1, h2, h3, h4, h5, h6, h7, h8, h9, h10, h11, h12, h13, h14, h15, h16, h17, h18, h19⟩ := h
 have hw := Within.grown h7 k h9
 have nb : ∀ z, bz ≠ z → z < wx.heap.size → wy.heap[z]? = wx.heap[z]? := fun z hz hl => k.block z hl (fun e => hz (Option.some.inj e).symm)
 exact ⟨by have hl := World.block_lt_of_cell? _ _ h1; unfold World.cell? at h1 ⊢; rw [nb b2 h15 hl]; exact h1, (nb _ h16 (heap_lt h2)).trans h2, (nb _ h17 (heap_lt h3)).trans h3, (nb _ h18 (heap_lt h4)).trans h4, hz', (nb _ h19 (heap_lt h6)).trans h6, hw, h8, h9, h10, h11, h12, h13, h14, h15, h16, h17, h18, h19⟩
theorem zz58 {p : Prop} (h : p := by
 obtain ⟨b, s, b', s', e⟩ := h5
 exact ⟨b, s, b', s', (Below.heap_setCell _ _ _ _ h19).trans e⟩) : p := h
theorem StW.set0 {w wx : World} {b2 b4 b5 b6 bz b7 : Nat} {K : Int} {xa la ha : Nat} {ra : Option Addr} {ka fa : Bool} {xb lb hb : Nat} {rb : Option Addr} {kb fb : Bool} {v0 v1 v2 v3 v4 v5 : Value} (h : StW w wx b2 b4 b5 b6 bz b7 K xa la ha ra ka fa xb lb hb rb kb fb v0 v1 v2 v3 v4 v5) (a : Value) : StW w (wx.setCell ⟨b7, 0, none⟩ a) b2 b4 b5 b6 bz b7 K xa la ha ra ka fa xb lb hb rb kb fb a v1 v2 v3 v4 v5 := by
 obtain ⟨h1, h2, h3, h4, h5, h6, h7, h8, h9, h10, h11, h12, h13, h14, h15, h16, h17, h18, h19⟩ := h
 refine ⟨(cell_other (Ne.symm h11) _).trans h1, (Below.heap_setCell _ _ _ _ (Ne.symm h12)).trans h2, (Below.heap_setCell _ _ _ _ (Ne.symm h13)).trans h3, (Below.heap_setCell _ _ _ _ (Ne.symm h14)).trans h4, ?_, six_set0 h6 a, h7.setCell (p := ⟨b7, 0, none⟩) h10 _, h8, h9, h10, h11, h12, h13, h14, h15, h16, h17, h18, h19⟩
 exact zz58
theorem StW.set1 {w wx : World} {b2 b4 b5 b6 bz b7 : Nat} {K : Int} {xa la ha : Nat} {ra : Option Addr} {ka fa : Bool} {xb lb hb : Nat} {rb : Option Addr} {kb fb : Bool} {v0 v1 v2 v3 v4 v5 : Value} (h : StW w wx b2 b4 b5 b6 bz b7 K xa la ha ra ka fa xb lb hb rb kb fb v0 v1 v2 v3 v4 v5) (a : Value) : StW w (wx.setCell ⟨b7, 1, none⟩ a) b2 b4 b5 b6 bz b7 K xa la ha ra ka fa xb lb hb rb kb fb v0 a v2 v3 v4 v5 := by
 obtain ⟨h1, h2, h3, h4, h5, h6, h7, h8, h9, h10, h11, h12, h13, h14, h15, h16, h17, h18, h19⟩ := h
 refine ⟨(cell_other (Ne.symm h11) _).trans h1, (Below.heap_setCell _ _ _ _ (Ne.symm h12)).trans h2, (Below.heap_setCell _ _ _ _ (Ne.symm h13)).trans h3, (Below.heap_setCell _ _ _ _ (Ne.symm h14)).trans h4, ?_, six_set1 h6 a, h7.setCell (p := ⟨b7, 1, none⟩) h10 _, h8, h9, h10, h11, h12, h13, h14, h15, h16, h17, h18, h19⟩
 exact zz58
theorem StW.set2 {w wx : World} {b2 b4 b5 b6 bz b7 : Nat} {K : Int} {xa la ha : Nat} {ra : Option Addr} {ka fa : Bool} {xb lb hb : Nat} {rb : Option Addr} {kb fb : Bool} {v0 v1 v2 v3 v4 v5 : Value} (h : StW w wx b2 b4 b5 b6 bz b7 K xa la ha ra ka fa xb lb hb rb kb fb v0 v1 v2 v3 v4 v5) (a : Value) : StW w (wx.setCell ⟨b7, 2, none⟩ a) b2 b4 b5 b6 bz b7 K xa la ha ra ka fa xb lb hb rb kb fb v0 v1 a v3 v4 v5 := by
 obtain ⟨h1, h2, h3, h4, h5, h6, h7, h8, h9, h10, h11, h12, h13, h14, h15, h16, h17, h18, h19⟩ := h
 refine ⟨(cell_other (Ne.symm h11) _).trans h1, (Below.heap_setCell _ _ _ _ (Ne.symm h12)).trans h2, (Below.heap_setCell _ _ _ _ (Ne.symm h13)).trans h3, (Below.heap_setCell _ _ _ _ (Ne.symm h14)).trans h4, ?_, six_set2 h6 a, h7.setCell (p := ⟨b7, 2, none⟩) h10 _, h8, h9, h10, h11, h12, h13, h14, h15, h16, h17, h18, h19⟩
 exact zz58
theorem StW.set4 {w wx : World} {b2 b4 b5 b6 bz b7 : Nat} {K : Int} {xa la ha : Nat} {ra : Option Addr} {ka fa : Bool} {xb lb hb : Nat} {rb : Option Addr} {kb fb : Bool} {v0 v1 v2 v3 v4 v5 : Value} (h : StW w wx b2 b4 b5 b6 bz b7 K xa la ha ra ka fa xb lb hb rb kb fb v0 v1 v2 v3 v4 v5) (a : Value) : StW w (wx.setCell ⟨b7, 4, none⟩ a) b2 b4 b5 b6 bz b7 K xa la ha ra ka fa xb lb hb rb kb fb v0 v1 v2 v3 a v5 := by
 obtain ⟨h1, h2, h3, h4, h5, h6, h7, h8, h9, h10, h11, h12, h13, h14, h15, h16, h17, h18, h19⟩ := h
 refine ⟨(cell_other (Ne.symm h11) _).trans h1, (Below.heap_setCell _ _ _ _ (Ne.symm h12)).trans h2, (Below.heap_setCell _ _ _ _ (Ne.symm h13)).trans h3, (Below.heap_setCell _ _ _ _ (Ne.symm h14)).trans h4, ?_, six_set4 h6 a, h7.setCell (p := ⟨b7, 4, none⟩) h10 _, h8, h9, h10, h11, h12, h13, h14, h15, h16, h17, h18, h19⟩
 exact zz58
theorem StW.set5 {w wx : World} {b2 b4 b5 b6 bz b7 : Nat} {K : Int} {xa la ha : Nat} {ra : Option Addr} {ka fa : Bool} {xb lb hb : Nat} {rb : Option Addr} {kb fb : Bool} {v0 v1 v2 v3 v4 v5 : Value} (h : StW w wx b2 b4 b5 b6 bz b7 K xa la ha ra ka fa xb lb hb rb kb fb v0 v1 v2 v3 v4 v5) (a : Value) : StW w (wx.setCell ⟨b7, 5, none⟩ a) b2 b4 b5 b6 bz b7 K xa la ha ra ka fa xb lb hb rb kb fb v0 v1 v2 v3 v4 a := by
 obtain ⟨h1, h2, h3, h4, h5, h6, h7, h8, h9, h10, h11, h12, h13, h14, h15, h16, h17, h18, h19⟩ := h
 refine ⟨(cell_other (Ne.symm h11) _).trans h1, (Below.heap_setCell _ _ _ _ (Ne.symm h12)).trans h2, (Below.heap_setCell _ _ _ _ (Ne.symm h13)).trans h3, (Below.heap_setCell _ _ _ _ (Ne.symm h14)).trans h4, ?_, six_set5 h6 a, h7.setCell (p := ⟨b7, 5, none⟩) h10 _, h8, h9, h10, h11, h12, h13, h14, h15, h16, h17, h18, h19⟩
 exact zz58
theorem StW.make {w wx : World} {b2 b4 b5 b6 : Nat} {K : Int} {xa la ha : Nat} {ra : Option Addr} {ka fa : Bool} {xb lb hb : Nat} {rb : Option Addr} {kb fb : Bool} {v0 v1 v2 v4 v5 : Value} (h1 : wx.cell? ⟨b2, 0, none⟩ = some (.int .i64 K)) (h2 : wx.heap[b4]? = some (.cells #[.float .f64 0, .float .f64 0, .float .f64 0, .pointer none, .bool false, .bool false] 33 (0, 0))) (h3 : wx.heap[b5]? = some (.cells #[.float .f64 xa, .float .f64 la, .float .f64 ha, .pointer ra, .bool ka, .bool fa] 33 (0, 0))) (h4 : wx.heap[b6]? = some (.cells #[.float .f64 xb, .float .f64 lb, .float .f64 hb, .pointer rb, .bool kb, .bool fb] 33 (0, 0))) (hw : Within w wx) (hwb : w.heap.size ≤ b4) (hn : b2 ≠ b4 ∧ b2 ≠ b5 ∧ b2 ≠ b6 ∧ b4 ≠ b5 ∧ b4 ≠ b6 ∧ b5 ≠ b6) :
 StW w ((wx.alloc (.cells #[.bool false, .slice none 0 0, .bool false, .slice none 0 0] 96)).alloc (.cells #[v0, v1, v2, .pointer (some ⟨wx.heap.size, 0, none⟩), v4, v5] 33)) b2 b4 b5 b6 wx.heap.size (wx.heap.size + 1) K xa la ha ra ka fa xb lb hb rb kb fb v0 v1 v2 (.pointer (some ⟨wx.heap.size, 0, none⟩)) v4 v5 := by
 have k1 : Within wx (wx.alloc (.cells #[.bool false, .slice none 0 0, .bool false, .slice none 0 0] 96)) := (Within.refl wx).alloc _
 have k2 : Within (wx.alloc (.cells #[.bool false, .slice none 0 0, .bool false, .slice none 0 0] 96)) ((wx.alloc (.cells #[.bool false, .slice none 0 0, .bool false, .slice none 0 0] 96)).alloc (.cells #[v0, v1, v2, .pointer (some ⟨wx.heap.size, 0, none⟩), v4, v5] 33)) := (Within.refl _).alloc _
 have k := k1.trans k2
 have l1 := World.block_lt_of_cell? _ _ h1; have l2 := heap_lt h2; have l3 := heap_lt h3; have l4 := heap_lt h4
 have hs : (wx.alloc (.cells #[.bool false, .slice none 0 0, .bool false, .slice none 0 0] 96)).heap.size = wx.heap.size + 1 := by simp
 have hv := heap_alloc_new (wx.alloc (.cells #[.bool false, .slice none 0 0, .bool false, .slice none 0 0] 96)) (.cells #[v0, v1, v2, .pointer (some ⟨wx.heap.size, 0, none⟩), v4, v5] 33)
 rw [hs] at hv
 have l1 : b2 < wx.heap.size := l1
 have hz := hw.size
 exact ⟨(k.cells _ _ l1).trans h1, (k.block _ l2).trans h2, (k.block _ l3).trans h3, (k.block _ l4).trans h4, (RatTy.made wx).of k2, hv, hw.trans k, hwb, by omega, by omega, by omega, by omega, by omega, by omega, by omega, by omega, by omega, by omega, by omega⟩
def EntAt (w : World) (g i : Nat) (x l h : Nat) (r : Option Addr) (kn fi : Bool) : Prop := w.cell? ⟨g, i * 6, none⟩ = some (.float .f64 x) ∧ w.cell? ⟨g, i * 6 + 1, none⟩ = some (.float .f64 l) ∧ w.cell? ⟨g, i * 6 + 2, none⟩ = some (.float .f64 h) ∧ w.cell? ⟨g, i * 6 + 3, none⟩ = some (.pointer r) ∧ w.cell? ⟨g, i * 6 + 4, none⟩ = some (.bool kn) ∧ w.cell? ⟨g, i * 6 + 5, none⟩ = some (.bool fi)
theorem EntAt.of {w w' : World} {g i x l h : Nat} {r : Option Addr} {kn fi : Bool} (e : EntAt w g i x l h r kn fi) (k : Within w w') : EntAt w' g i x l h r kn fi := by
 obtain ⟨h1, h2, h3, h4, h5, h6⟩ := e
 have hl := World.block_lt_of_cell? _ _ h1
 exact ⟨(k.cells _ _ hl).trans h1, (k.cells _ _ hl).trans h2, (k.cells _ _ hl).trans h3, (k.cells _ _ hl).trans h4, (k.cells _ _ hl).trans h5, (k.cells _ _ hl).trans h6⟩
theorem Bbitlen_nil (x : Nat) (A : Option Addr) (c : Nat) (w : World) (c1 : w.cell? ⟨x, 1, none⟩ = some (.slice A 0 c)) : Calls Tryz.prog 35 #[.pointer (some ⟨x, 0, none⟩)] w (fun e w' => e = .returned (.int .i64 0) ∧ Within w w') := by
 go_enter Tryz.func35, Tryz.ntmps35
 go_wp2
 go_ret
 exact ⟨rfl, Within.refl _⟩
theorem blen_5000 {n : Nat} (h : n < 2 ^ eB) : blen n ≤ 5000 := by
 have k : blen n ≤ eB := blen_up h
 rw [eB_is] at k
 exact k
theorem Bbitlen_row (x n : Nat) (A : Option Addr) (c : Nat) (hl : (dg n).length ≤ 1000) (w : World) (c1 : w.cell? ⟨x, 1, none⟩ = some (.slice A (dg n).length c)) (hr : RowAt w A (dg n)) : Calls Tryz.prog 35 #[.pointer (some ⟨x, 0, none⟩)] w (fun e w' => e = .returned (.int .i64 (blen n : Nat)) ∧ Within w w') := by
 by_cases h : n = 0
 ·subst h
  rw [dg_zero] at c1
  exact (Bbitlen_nil x A c w c1).mono fun e w' h => ⟨h.1, h.2⟩
 ·obtain ⟨k, hk⟩ : ∃ k, (dg n).length = k + 1 := ⟨_, (Nat.succ_pred_eq_of_pos (dg_len_pos om)).symm⟩
  obtain ⟨g, rfl, _, ct⟩ := hr.cell (i := k) om
  obtain ⟨hb, h0, hlt⟩ := blen_top hk
  have hL : Lib.bitLen ((dg n).getD k 0) ≤ 32 := by
   rw [bitLen_log2 _ h0 om]
   have := (Nat.log2_lt h0 (k := 32)).2 hlt
   omega
  exact zz89
theorem Bbitlen_num (z : Nat) (a : Int) (b : Nat) (hl : (dg a.natAbs).length ≤ 1000) (w : World) (hz : RatB w z a b) : Calls Tryz.prog 35 #[.pointer (some ⟨z, 0, none⟩)] w (fun e w' => e = .returned (.int .i64 (blen a.natAbs : Nat)) ∧ Within w w') := by
 obtain ⟨A, c, Bv, cb, c0, c1, c2, c3, r1, r2⟩ := hz.rd
 exact Bbitlen_row z a.natAbs A c hl w c1 r1
theorem Bbitlen_int (z : Nat) (v : Int) (hl : (dg v.natAbs).length ≤ 1000) (w : World) (hz : IntB w z v) : Calls Tryz.prog 35 #[.pointer (some ⟨z, 0, none⟩)] w (fun e w' => e = .returned (.int .i64 (blen v.natAbs : Nat)) ∧ Within w w') := by
 obtain ⟨A, c, c0, c1, r1⟩ := hz.rd
 exact Bbitlen_row z v.natAbs A c hl w c1 r1
theorem small_of {a : Nat} {b : Nat} {L M : Nat} (h1 : a < 2 ^ L) (h2 : b < 2 ^ M) (h : ¬ 2000 < L + M) : a < 2 ^ eM ∧ b < 2 ^ eM :=
 ⟨Nat.lt_of_lt_of_le h1 (Nat.pow_le_pow_right dc (by rw [eM_is]; omega)), Nat.lt_of_lt_of_le h2 (Nat.pow_le_pow_right dc (by rw [eM_is]; omega))⟩
def cTl : Code → Code | .seq _ b => b | c => c
noncomputable def bodyTl (n : Nat) : Code := n.repeat cTl (Tryz.f7.body.getD .skip)
def TMt (T : Nat → Value) (b2 b4 b5 b6 b7 : Nat) : Act := { tmps := #[T 0, T 1, .pointer (some ⟨b2, 0, none⟩), T 3, .pointer (some ⟨b4, 0, none⟩), .pointer (some ⟨b5, 0, none⟩), .pointer (some ⟨b6, 0, none⟩), .pointer (some ⟨b7, 0, none⟩), T 8, T 9, T 10, T 11, T 12, T 13, T 14, T 15, T 16, T 17, T 18, T 19, T 20, T 21, T 22, T 23, T 24, T 25, T 26, T 27, T 28, T 29, T 30, T 31, T 32, T 33, T 34, T 35, T 36, T 37, T 38, T 39, T 40, T 41, T 42, T 43, T 44, T 45, T 46, T 47, T 48, T 49, T 50, T 51, T 52, T 53, T 54, T 55, T 56, T 57, T 58, T 59, T 60, T 61, T 62, T 63, T 64, T 65, T 66, T 67, T 68, T 69, T 70, T 71, T 72, T 73, T 74, T 75, T 76, T 77, T 78, T 79, T 80, T 81, T 82, T 83, T 84, T 85, T 86, T 87, T 88, T 89, T 90, T 91, T 92, T 93, T 94, T 95, T 96, T 97, T 98, T 99, T 100, T 101, T 102, T 103, T 104, T 105, T 106, T 107, T 108, T 109, T 110, T 111, T 112, T 113, T 114, T 115, T 116, T 117, T 118, T 119, T 120, T 121, T 122, T 123, T 124, T 125, T 126, T 127, T 128, T 129, T 130, T 131, T 132, T 133, T 134, T 135, T 136, T 137, T 138, T 139, T 140, T 141, T 142, T 143, T 144, T 145, T 146, T 147, T 148, T 149, T 150, T 151, T 152, T 153, T 154, T 155, T 156, T 157, T 158, T 159, T 160, T 161, T 162, T 163, T 164, T 165, T 166, T 167, T 168, T 169, T 170, T 171, T 172, T 173, T 174, T 175, T 176, T 177, T 178, T 179, T 180, T 181, T 182, T 183, T 184, T 185, T 186, T 187, T 188, T 189, T 190, T 191, T 192, T 193, T 194, T 195, T 196, T 197, T 198, T 199, T 200, T 201, T 202, T 203, T 204, T 205, T 206, T 207, T 208, T 209, T 210, T 211, T 212, T 213, T 214, T 215, T 216, T 217, T 218, T 219, T 220, T 221, T 222, T 223, T 224, T 225, T 226, T 227, T 228, T 229, T 230, T 231, T 232, T 233, T 234, T 235, T 236, T 237, T 238, T 239, T 240, T 241, T 242, T 243, T 244, T 245, T 246, T 247, T 248, T 249, T 250, T 251], defers := [] }
theorem tm_list (l : List Value) (h : l.length = 252) (b2 b4 b5 b6 b7 : Nat) (e2 : l[2]? = some (.pointer (some ⟨b2, 0, none⟩))) (e4 : l[4]? = some (.pointer (some ⟨b4, 0, none⟩))) (e5 : l[5]? = some (.pointer (some ⟨b5, 0, none⟩))) (e6 : l[6]? = some (.pointer (some ⟨b6, 0, none⟩))) (e7 : l[7]? = some (.pointer (some ⟨b7, 0, none⟩))) : ∃ T, ({ tmps := l.toArray, defers := [] } : Act) = TMt T b2 b4 b5 b6 b7 := by
 have e : l = (List.range 252).map (fun i => l.getD i undef) := by
  apply List.ext_getElem?
  intro i
  rw [List.getElem?_map]
  by_cases hi : i < 252
  ·rw [List.getElem?_range hi]
   have hl : i < l.length := by omega
   simp [List.getD, List.getElem?_eq_getElem hl]
  ·rw [List.getElem?_eq_none om, List.getElem?_eq_none (by simpa using hi)]; rfl
 have t : ∀ i v, l[i]? = some v → l.getD i undef = v := fun i v h => by simp [List.getD, h]
 refine ⟨fun i => l.getD i undef, ?_⟩
 unfold TMt
 rw [← t 2 _ e2, ← t 4 _ e4, ← t 5 _ e5, ← t 6 _ e6, ← t 7 _ e7]
 have e' := e.trans (show (List.range 252).map (fun i => l.getD i undef) = [l.getD 0 undef, l.getD 1 undef, l.getD 2 undef, l.getD 3 undef, l.getD 4 undef, l.getD 5 undef, l.getD 6 undef, l.getD 7 undef, l.getD 8 undef, l.getD 9 undef, l.getD 10 undef, l.getD 11 undef, l.getD 12 undef, l.getD 13 undef, l.getD 14 undef, l.getD 15 undef, l.getD 16 undef, l.getD 17 undef, l.getD 18 undef, l.getD 19 undef, l.getD 20 undef, l.getD 21 undef, l.getD 22 undef, l.getD 23 undef, l.getD 24 undef, l.getD 25 undef, l.getD 26 undef, l.getD 27 undef, l.getD 28 undef, l.getD 29 undef, l.getD 30 undef, l.getD 31 undef, l.getD 32 undef, l.getD 33 undef, l.getD 34 undef, l.getD 35 undef, l.getD 36 undef, l.getD 37 undef, l.getD 38 undef, l.getD 39 undef, l.getD 40 undef, l.getD 41 undef, l.getD 42 undef, l.getD 43 undef, l.getD 44 undef, l.getD 45 undef, l.getD 46 undef, l.getD 47 undef, l.getD 48 undef, l.getD 49 undef, l.getD 50 undef, l.getD 51 undef, l.getD 52 undef, l.getD 53 undef, l.getD 54 undef, l.getD 55 undef, l.getD 56 undef, l.getD 57 undef, l.getD 58 undef, l.getD 59 undef, l.getD 60 undef, l.getD 61 undef, l.getD 62 undef, l.getD 63 undef, l.getD 64 undef, l.getD 65 undef, l.getD 66 undef, l.getD 67 undef, l.getD 68 undef, l.getD 69 undef, l.getD 70 undef, l.getD 71 undef, l.getD 72 undef, l.getD 73 undef, l.getD 74 undef, l.getD 75 undef, l.getD 76 undef, l.getD 77 undef, l.getD 78 undef, l.getD 79 undef, l.getD 80 undef, l.getD 81 undef, l.getD 82 undef, l.getD 83 undef, l.getD 84 undef, l.getD 85 undef, l.getD 86 undef, l.getD 87 undef, l.getD 88 undef, l.getD 89 undef, l.getD 90 undef, l.getD 91 undef, l.getD 92 undef, l.getD 93 undef, l.getD 94 undef, l.getD 95 undef, l.getD 96 undef, l.getD 97 undef, l.getD 98 undef, l.getD 99 undef, l.getD 100 undef, l.getD 101 undef, l.getD 102 undef, l.getD 103 undef, l.getD 104 undef, l.getD 105 undef, l.getD 106 undef, l.getD 107 undef, l.getD 108 undef, l.getD 109 undef, l.getD 110 undef, l.getD 111 undef, l.getD 112 undef, l.getD 113 undef, l.getD 114 undef, l.getD 115 undef, l.getD 116 undef, l.getD 117 undef, l.getD 118 undef, l.getD 119 undef, l.getD 120 undef, l.getD 121 undef, l.getD 122 undef, l.getD 123 undef, l.getD 124 undef, l.getD 125 undef, l.getD 126 undef, l.getD 127 undef, l.getD 128 undef, l.getD 129 undef, l.getD 130 undef, l.getD 131 undef, l.getD 132 undef, l.getD 133 undef, l.getD 134 undef, l.getD 135 undef, l.getD 136 undef, l.getD 137 undef, l.getD 138 undef, l.getD 139 undef, l.getD 140 undef, l.getD 141 undef, l.getD 142 undef, l.getD 143 undef, l.getD 144 undef, l.getD 145 undef, l.getD 146 undef, l.getD 147 undef, l.getD 148 undef, l.getD 149 undef, l.getD 150 undef, l.getD 151 undef, l.getD 152 undef, l.getD 153 undef, l.getD 154 undef, l.getD 155 undef, l.getD 156 undef, l.getD 157 undef, l.getD 158 undef, l.getD 159 undef, l.getD 160 undef, l.getD 161 undef, l.getD 162 undef, l.getD 163 undef, l.getD 164 undef, l.getD 165 undef, l.getD 166 undef, l.getD 167 undef, l.getD 168 undef, l.getD 169 undef, l.getD 170 undef, l.getD 171 undef, l.getD 172 undef, l.getD 173 undef, l.getD 174 undef, l.getD 175 undef, l.getD 176 undef, l.getD 177 undef, l.getD 178 undef, l.getD 179 undef, l.getD 180 undef, l.getD 181 undef, l.getD 182 undef, l.getD 183 undef, l.getD 184 undef, l.getD 185 undef, l.getD 186 undef, l.getD 187 undef, l.getD 188 undef, l.getD 189 undef, l.getD 190 undef, l.getD 191 undef, l.getD 192 undef, l.getD 193 undef, l.getD 194 undef, l.getD 195 undef, l.getD 196 undef, l.getD 197 undef, l.getD 198 undef, l.getD 199 undef, l.getD 200 undef, l.getD 201 undef, l.getD 202 undef, l.getD 203 undef, l.getD 204 undef, l.getD 205 undef, l.getD 206 undef, l.getD 207 undef, l.getD 208 undef, l.getD 209 undef, l.getD 210 undef, l.getD 211 undef, l.getD 212 undef, l.getD 213 undef, l.getD 214 undef, l.getD 215 undef, l.getD 216 undef, l.getD 217 undef, l.getD 218 undef, l.getD 219 undef, l.getD 220 undef, l.getD 221 undef, l.getD 222 undef, l.getD 223 undef, l.getD 224 undef, l.getD 225 undef, l.getD 226 undef, l.getD 227 undef, l.getD 228 undef, l.getD 229 undef, l.getD 230 undef, l.getD 231 undef, l.getD 232 undef, l.getD 233 undef, l.getD 234 undef, l.getD 235 undef, l.getD 236 undef, l.getD 237 undef, l.getD 238 undef, l.getD 239 undef, l.getD 240 undef, l.getD 241 undef, l.getD 242 undef, l.getD 243 undef, l.getD 244 undef, l.getD 245 undef, l.getD 246 undef, l.getD 247 undef, l.getD 248 undef, l.getD 249 undef, l.getD 250 undef, l.getD 251 undef] by kernel_rfl)
 exact congrArg (fun x : List Value => ({ tmps := x.toArray, defers := [] } : Act)) e'
theorem tmuse {c : Code} {Q : Exit → Act → World → Prop} {w : World} {b2 b4 b5 b6 b7 : Nat} (h : ∀ T, Code.wp Tryz.prog c Q (TMt T b2 b4 b5 b6 b7) w) (t : Array Value) (hs : t.size = 252) (e2 : t[2]? = some (.pointer (some ⟨b2, 0, none⟩))) (e4 : t[4]? = some (.pointer (some ⟨b4, 0, none⟩))) (e5 : t[5]? = some (.pointer (some ⟨b5, 0, none⟩))) (e6 : t[6]? = some (.pointer (some ⟨b6, 0, none⟩))) (e7 : t[7]? = some (.pointer (some ⟨b7, 0, none⟩))) : Code.wp Tryz.prog c Q { tmps := t, defers := [] } w := by
 obtain ⟨l⟩ := t
 obtain ⟨T, e⟩ := tm_list l hs b2 b4 b5 b6 b7 (by simpa using e2) (by simpa using e4) (by simpa using e5) (by simpa using e6) (by simpa using e7)
 rw [e]
 exact h T
theorem zz35 {p : Prop} (h : p := by
 first
  | (rename_i hk; exact hk _ _ (tmuse (fun T => HR.out _ kr _ T hcut) _ rfl rfl rfl rfl rfl rfl))
  | (rename_i hk _; exact hk _ _ (tmuse (fun T => HR.out _ kr _ T hcut) _ rfl rfl rfl rfl rfl rfl))
  | (rename_i hk _ _; exact hk _ _ (tmuse (fun T => HR.out _ kr _ T hcut) _ rfl rfl rfl rfl rfl rfl))) : p := h
theorem size_f (c : Code) (hc : bodyTl 5 = c) (w wx : World) (K : Int) (b2 b4 b5 b6 bz b7 : Nat) (xa la ha : Nat) (ra : Option Addr) (ka fa : Bool) (xb lb hb : Nat) (rb : Option Addr) (kb fb : Bool) (fi : Bool)  (hS : StW w wx b2 b4 b5 b6 bz b7 K xa la ha ra ka fa xb lb hb rb kb fb (.float .f64 0) (.float .f64 0) (.float .f64 0) (.pointer (some ⟨bz, 0, none⟩)) (.bool false) (.bool fi)) (HR : Hid (∀ (c6 : Code), bodyTl 6 = c6 → ∀ (wy : World) (T : Nat → Value), StW w wy b2 b4 b5 b6 bz b7 K xa la ha ra ka fa xb lb hb rb kb fb (.float .f64 0) (.float .f64 0) (.float .f64 0) (.pointer (some ⟨bz, 0, none⟩)) (.bool false) (.bool fi) → Code.wp Tryz.prog c6 (bodyPost Tryz.prog Tryz.f7 (StP w)) (TMt T b2 b4 b5 b6 b7) wy)) (T : Nat → Value) : Code.wp Tryz.prog c (bodyPost Tryz.prog Tryz.f7 (StP w)) (TMt T b2 b4 b5 b6 b7) wx := by
 obtain ⟨F7, hF7⟩ : ∃ F, F = Tryz.f7 := ⟨_, rfl⟩
 rw [← hF7]
 subst hc
 simp only [bodyTl, Nat.repeat, Tryz.f7, cTl, Option.getD]
 subst hF7
 unfold TMt
 have HS := Hh hS; clear hS
 go_upto_region 6 with fail
 refine wp_region_schG (fun W => StW w W b2 b4 b5 b6 bz b7 K xa la ha ra ka fa xb lb hb rb kb fb (.float .f64 0) (.float .f64 0) (.float .f64 0) (.pointer (some ⟨bz, 0, none⟩)) (.bool false) (.bool fi)) 25 (.firm 0 (.firm 1 (.firm 2 (.firm 3 (.firm 4 (.firm 7 (.firm 8 (.one 5 (.one 6 (.one 9 (.one 10 (.firm 11 (.firm 12 (.firm 13 (.firm 14 (.firm 15 (.firm 18 (.firm 19 (.one 16 (.one 17 (.one 20 (.one 21 (.firm 22 (.firm 23 (.firm 24 (.one 25 .nil)))))))))))))))))))))))))) kr kr HS.out ?_
 rintro w0 hS0
 have HS0 := Hh hS0
 obtain ⟨u2_, u4_, u5_, u6_, uz_, u7_, uw, un_⟩ := hS0
 obtain ⟨-, -, -, t53, -, -, tf5⟩ := six_cells u5_
 obtain ⟨-, -, -, t63, -, -, tf6⟩ := six_cells u6_
 obtain ⟨-, -, -, -, t74, -, tf7⟩ := six_cells u7_
 have s5 := heap_lt u5_; have s6 := heap_lt u6_; have s7 := heap_lt u7_; have s2 := World.block_lt_of_cell? _ _ u2_; have s4 := heap_lt u4_
 clear u4_ u5_ u6_ u7_ uz_ un_
 clear u2_ tf5 tf6 tf7 s2 s4
 have hv0 := (Within.refl w0).drew
 try simp only [pu]
 iterate 3
  apply sch_firm rfl rfl wi
  ·intro wq hq
   have hcq := hq.cells
   clear hq
   go_simp
   rfl
  try simp only [pu]
 iterate 4
  refine sch_skip rfl wnt wi ?_
  try simp only [pu]
 iterate 4
  refine sch_one_skip rfl wnt wi ?_
  try simp only [pu]
 iterate 7
  refine sch_skip rfl wnt wi ?_
  try simp only [pu]
 iterate 4
  refine sch_one_skip rfl wnt wi ?_
  try simp only [pu]
 iterate 3
  refine sch_skip rfl wnt wi ?_
  try simp only [pu]
 refine sch_one rfl rfl (fun K hK => ?_)
 go_simp
 refine hK _ _ ab ?_
 clear hK K
 try simp only [pu]
 refine sch_nil ?_
 have HSv := Hh (HS0.out.of hv0)
 go_upto_if 90 with fail
 go_cut [] (fun wx => StW w wx b2 b4 b5 b6 bz b7 K xa la ha ra ka fa xb lb hb rb kb fb (.float .f64 0) (.float .f64 0) (.float .f64 0) (.pointer (some ⟨bz, 0, none⟩)) (.bool false) (.bool fi))
 case first =>
  go_wp2_with fail
  go_meet
  exact HSv.out
 case rest =>
 exact zz35
end Go.Proofs.YtgkcpnidmfejeaaGreatDoor
