/- Packets: what may begin a frame: walks. -/
import Derived.Test.YtmpcnhiklpahnaaDoorPk3
namespace Go.Proofs.YtmpcnhiklpahnaaDoor
open Go.RowKit

theorem u8_high {x : Nat} (h : x < 256) : bits .andNot .u8 (x : Int) 128 = ((x % 128 : Nat) : Int) ∧ bits .and .u8 (x : Int) 128 = (if 128 ≤ x then 128 else 0) := by
  have key : ∀ x : Fin 256, bits .andNot .u8 ((x.val : Nat) : Int) 128 = ((x.val % 128 : Nat) : Int) ∧ bits .and .u8 ((x.val : Nat) : Int) 128 = (if 128 ≤ x.val then 128 else 0) := by decide +kernel
  exact key ⟨x, h⟩
/-- a list's number at a place, and its cell -/
def At (w : World) (ad : Addr) (l : List Nat) (i x : Nat) : Prop := w.cell? (ad.add i) = some (.int .u8 (x : Int)) ∧ x = l.getD i 0

set_option maxRecDepth 100000 in
set_option maxHeartbeats 600000 in
theorem Rhead_bad0 (ad : Addr) (w : World) (n c x0 : Nat) (c0 : w.cell? ad = some (.int .u8 (x0 : Int))) (gb : ((x0 : Int) != 181) = true) (hn : 0 < n) (_hl : n ≤ 1152921504606846976) : Calls Tryd.prog 48 #[.slice (some ad) n c] w fun e w' => e = .returned (.bool false) ∧ w = w' := by
  go_enter Tryd.func48, Tryd.ntmps48
  go_wp2
  go_ret
  exact ⟨rfl, rfl⟩

set_option maxRecDepth 100000 in
set_option maxHeartbeats 600000 in
theorem Rhead_bad1 (ad : Addr) (w : World) (n c x0 x1 : Nat) (c0 : w.cell? ad = some (.int .u8 (x0 : Int))) (c1 : w.cell? ⟨ad.block, ad.off + 1, none⟩ = some (.int .u8 (x1 : Int))) (g0 : ((x0 : Int) != 181) = false) (gb : ((x1 : Int) != 98) = true) (hn : 1 < n) (hl : n ≤ 1152921504606846976) : Calls Tryd.prog 48 #[.slice (some ad) n c] w fun e w' => e = .returned (.bool false) ∧ w = w' := by
  go_enter Tryd.func48, Tryd.ntmps48
  go_wp2
  go_ret
  exact ⟨rfl, rfl⟩

set_option maxRecDepth 100000 in
set_option maxHeartbeats 600000 in
theorem Rhead_bad2 (ad : Addr) (w : World) (n c x0 x1 x2 : Nat) (c0 : w.cell? ad = some (.int .u8 (x0 : Int))) (c1 : w.cell? ⟨ad.block, ad.off + 1, none⟩ = some (.int .u8 (x1 : Int))) (c2 : w.cell? ⟨ad.block, ad.off + 2, none⟩ = some (.int .u8 (x2 : Int))) (g0 : ((x0 : Int) != 181) = false) (g1 : ((x1 : Int) != 98) = false) (gb : decide ((x2 : Int) ≥ 64) = true) (hn : 2 < n) (hl : n ≤ 1152921504606846976) : Calls Tryd.prog 48 #[.slice (some ad) n c] w fun e w' => e = .returned (.bool false) ∧ w = w' := by
  go_enter Tryd.func48, Tryd.ntmps48
  go_wp2
  go_ret
  exact ⟨rfl, rfl⟩

set_option maxRecDepth 100000 in
set_option maxHeartbeats 600000 in
theorem Rhead_bad3 (ad : Addr) (w : World) (n c x0 x1 x2 x3 : Nat) (c0 : w.cell? ad = some (.int .u8 (x0 : Int))) (c1 : w.cell? ⟨ad.block, ad.off + 1, none⟩ = some (.int .u8 (x1 : Int))) (c2 : w.cell? ⟨ad.block, ad.off + 2, none⟩ = some (.int .u8 (x2 : Int))) (c3 : w.cell? ⟨ad.block, ad.off + 3, none⟩ = some (.int .u8 (x3 : Int))) (g0 : ((x0 : Int) != 181) = false) (g1 : ((x1 : Int) != 98) = false) (g2 : decide ((x2 : Int) ≥ 64) = false) (gb : decide ((x3 : Int) % 128 > 6) = true) (hn : 4 ≤ n) (hl : n ≤ 1152921504606846976) : Calls Tryd.prog 48 #[.slice (some ad) n c] w fun e w' => e = .returned (.bool false) ∧ w = w' := by
  go_enter Tryd.func48, Tryd.ntmps48
  go_wp2
  go_ret
  exact ⟨rfl, rfl⟩

set_option maxRecDepth 100000 in
set_option maxHeartbeats 600000 in
theorem Rhead_few0 (A : Option Addr) (c : Nat) (w : World)  : Calls Tryd.prog 48 #[.slice A 0 c] w fun e w' => e = .returned (.bool true) ∧ w = w' := by
  go_enter Tryd.func48, Tryd.ntmps48
  go_wp2
  go_ret
  exact ⟨rfl, rfl⟩

set_option maxRecDepth 100000 in
set_option maxHeartbeats 600000 in
theorem Rhead_few1 (ad : Addr) (w : World) (n c x0 : Nat) (c0 : w.cell? ad = some (.int .u8 (x0 : Int))) (g0 : ((x0 : Int) != 181) = false) (hn : n = 1)  : Calls Tryd.prog 48 #[.slice (some ad) n c] w fun e w' => e = .returned (.bool true) ∧ w = w' := by
  subst hn
  go_enter Tryd.func48, Tryd.ntmps48
  go_wp2
  go_ret
  exact ⟨rfl, rfl⟩

set_option maxRecDepth 100000 in
set_option maxHeartbeats 600000 in
theorem Rhead_few2 (ad : Addr) (w : World) (n c x0 x1 : Nat) (c0 : w.cell? ad = some (.int .u8 (x0 : Int))) (c1 : w.cell? ⟨ad.block, ad.off + 1, none⟩ = some (.int .u8 (x1 : Int))) (g0 : ((x0 : Int) != 181) = false) (g1 : ((x1 : Int) != 98) = false) (hn : n = 2)  : Calls Tryd.prog 48 #[.slice (some ad) n c] w fun e w' => e = .returned (.bool true) ∧ w = w' := by
  subst hn
  go_enter Tryd.func48, Tryd.ntmps48
  go_wp2
  go_ret
  exact ⟨rfl, rfl⟩

set_option maxRecDepth 100000 in
set_option maxHeartbeats 600000 in
theorem Rhead_few3 (ad : Addr) (w : World) (n c x0 x1 x2 : Nat) (c0 : w.cell? ad = some (.int .u8 (x0 : Int))) (c1 : w.cell? ⟨ad.block, ad.off + 1, none⟩ = some (.int .u8 (x1 : Int))) (c2 : w.cell? ⟨ad.block, ad.off + 2, none⟩ = some (.int .u8 (x2 : Int))) (g0 : ((x0 : Int) != 181) = false) (g1 : ((x1 : Int) != 98) = false) (g2 : decide ((x2 : Int) ≥ 64) = false) (hn : n = 3)  : Calls Tryd.prog 48 #[.slice (some ad) n c] w fun e w' => e = .returned (.bool true) ∧ w = w' := by
  subst hn
  go_enter Tryd.func48, Tryd.ntmps48
  go_wp2
  go_ret
  exact ⟨rfl, rfl⟩

set_option maxRecDepth 100000 in
set_option maxHeartbeats 600000 in
theorem Rhead_full (ad : Addr) (w : World) (n c x0 x1 x2 x3 : Nat) (c0 : w.cell? ad = some (.int .u8 (x0 : Int))) (c1 : w.cell? ⟨ad.block, ad.off + 1, none⟩ = some (.int .u8 (x1 : Int))) (c2 : w.cell? ⟨ad.block, ad.off + 2, none⟩ = some (.int .u8 (x2 : Int))) (c3 : w.cell? ⟨ad.block, ad.off + 3, none⟩ = some (.int .u8 (x3 : Int))) (g0 : ((x0 : Int) != 181) = false) (g1 : ((x1 : Int) != 98) = false) (g2 : decide ((x2 : Int) ≥ 64) = false) (g3 : decide ((x3 : Int) % 128 > 6) = false) (hn : 4 ≤ n) (hl : n ≤ 1152921504606846976) : Calls Tryd.prog 48 #[.slice (some ad) n c] w fun e w' => e = .returned (.bool true) ∧ w = w' := by
  go_enter Tryd.func48, Tryd.ntmps48
  go_wp2
  go_ret
  exact ⟨rfl, rfl⟩

set_option maxRecDepth 100000 in
set_option maxHeartbeats 600000 in
theorem size_bad0 (ad : Addr) (w : World) (n c x0 : Nat) (c0 : w.cell? ad = some (.int .u8 (x0 : Int))) (gb : ((x0 : Int) != 181) = true) (hn : 0 < n) (_hl : n ≤ 1152921504606846976) : Calls Tryd.prog 44 #[.slice (some ad) n c] w fun e w' => e = .returned (.tuple #[.int .i64 0, .bool false]) ∧ w = w' := by
  go_enter Tryd.func44, Tryd.ntmps44
  go_wp2
  go_ret2
  exact ⟨rfl, rfl⟩

set_option maxRecDepth 100000 in
set_option maxHeartbeats 600000 in
theorem size_bad1 (ad : Addr) (w : World) (n c x0 x1 : Nat) (c0 : w.cell? ad = some (.int .u8 (x0 : Int))) (c1 : w.cell? ⟨ad.block, ad.off + 1, none⟩ = some (.int .u8 (x1 : Int))) (g0 : ((x0 : Int) != 181) = false) (gb : ((x1 : Int) != 98) = true) (hn : 1 < n) (hl : n ≤ 1152921504606846976) : Calls Tryd.prog 44 #[.slice (some ad) n c] w fun e w' => e = .returned (.tuple #[.int .i64 0, .bool false]) ∧ w = w' := by
  go_enter Tryd.func44, Tryd.ntmps44
  go_wp2
  go_ret2
  exact ⟨rfl, rfl⟩

set_option maxRecDepth 100000 in
set_option maxHeartbeats 600000 in
theorem size_bad2 (ad : Addr) (w : World) (n c x0 x1 x2 : Nat) (c0 : w.cell? ad = some (.int .u8 (x0 : Int))) (c1 : w.cell? ⟨ad.block, ad.off + 1, none⟩ = some (.int .u8 (x1 : Int))) (c2 : w.cell? ⟨ad.block, ad.off + 2, none⟩ = some (.int .u8 (x2 : Int))) (g0 : ((x0 : Int) != 181) = false) (g1 : ((x1 : Int) != 98) = false) (gb : decide ((x2 : Int) ≥ 64) = true) (hn : 2 < n) (hl : n ≤ 1152921504606846976) : Calls Tryd.prog 44 #[.slice (some ad) n c] w fun e w' => e = .returned (.tuple #[.int .i64 0, .bool false]) ∧ w = w' := by
  go_enter Tryd.func44, Tryd.ntmps44
  go_wp2
  go_ret2
  exact ⟨rfl, rfl⟩

set_option maxRecDepth 100000 in
set_option maxHeartbeats 600000 in
theorem size_bad3 (ad : Addr) (w : World) (n c x0 x1 x2 x3 : Nat) (c0 : w.cell? ad = some (.int .u8 (x0 : Int))) (c1 : w.cell? ⟨ad.block, ad.off + 1, none⟩ = some (.int .u8 (x1 : Int))) (c2 : w.cell? ⟨ad.block, ad.off + 2, none⟩ = some (.int .u8 (x2 : Int))) (c3 : w.cell? ⟨ad.block, ad.off + 3, none⟩ = some (.int .u8 (x3 : Int))) (g0 : ((x0 : Int) != 181) = false) (g1 : ((x1 : Int) != 98) = false) (g2 : decide ((x2 : Int) ≥ 64) = false) (gb : 6 < x3 % 128) (hn : 4 ≤ n) (hl : n ≤ 1152921504606846976) (hx : x3 < 256) : Calls Tryd.prog 44 #[.slice (some ad) n c] w fun e w' => e = .returned (.tuple #[.int .i64 0, .bool false]) ∧ w = w' := by
  obtain ⟨u1, u2⟩ := u8_high hx
  have d1 : decide (((x3 % 128 : Nat) : Int) > 6) = true := by simp; omega
  have d2 : decide (((x3 : Int) % 128) > 6) = true := by simp; omega
  have d3 : ((x3 % 128 : Nat) : Int) = (x3 : Int) % 128 := by omega
  rw [d3] at u1
  clear d3 u2 d1 gb hx
  go_enter Tryd.func44, Tryd.ntmps44
  go_wp2
  go_ret2
  exact ⟨rfl, rfl⟩

set_option maxRecDepth 100000 in
set_option maxHeartbeats 600000 in
theorem size_few0 (A : Option Addr) (c : Nat) (w : World)  : Calls Tryd.prog 44 #[.slice A 0 c] w fun e w' => e = .returned (.tuple #[.int .i64 4, .bool true]) ∧ w = w' := by
  go_enter Tryd.func44, Tryd.ntmps44
  go_wp2
  go_ret2
  exact ⟨rfl, rfl⟩

set_option maxRecDepth 100000 in
set_option maxHeartbeats 600000 in
theorem size_few1 (ad : Addr) (w : World) (n c x0 : Nat) (c0 : w.cell? ad = some (.int .u8 (x0 : Int))) (g0 : ((x0 : Int) != 181) = false) (hn : n = 1)  : Calls Tryd.prog 44 #[.slice (some ad) n c] w fun e w' => e = .returned (.tuple #[.int .i64 4, .bool true]) ∧ w = w' := by
  subst hn
  go_enter Tryd.func44, Tryd.ntmps44
  go_wp2
  go_ret2
  exact ⟨rfl, rfl⟩

set_option maxRecDepth 100000 in
set_option maxHeartbeats 600000 in
theorem size_few2 (ad : Addr) (w : World) (n c x0 x1 : Nat) (c0 : w.cell? ad = some (.int .u8 (x0 : Int))) (c1 : w.cell? ⟨ad.block, ad.off + 1, none⟩ = some (.int .u8 (x1 : Int))) (g0 : ((x0 : Int) != 181) = false) (g1 : ((x1 : Int) != 98) = false) (hn : n = 2)  : Calls Tryd.prog 44 #[.slice (some ad) n c] w fun e w' => e = .returned (.tuple #[.int .i64 4, .bool true]) ∧ w = w' := by
  subst hn
  go_enter Tryd.func44, Tryd.ntmps44
  go_wp2
  go_ret2
  exact ⟨rfl, rfl⟩

set_option maxRecDepth 100000 in
set_option maxHeartbeats 600000 in
theorem size_few3 (ad : Addr) (w : World) (n c x0 x1 x2 : Nat) (c0 : w.cell? ad = some (.int .u8 (x0 : Int))) (c1 : w.cell? ⟨ad.block, ad.off + 1, none⟩ = some (.int .u8 (x1 : Int))) (c2 : w.cell? ⟨ad.block, ad.off + 2, none⟩ = some (.int .u8 (x2 : Int))) (g0 : ((x0 : Int) != 181) = false) (g1 : ((x1 : Int) != 98) = false) (g2 : decide ((x2 : Int) ≥ 64) = false) (hn : n = 3)  : Calls Tryd.prog 44 #[.slice (some ad) n c] w fun e w' => e = .returned (.tuple #[.int .i64 4, .bool true]) ∧ w = w' := by
  subst hn
  go_enter Tryd.func44, Tryd.ntmps44
  go_wp2
  go_ret2
  exact ⟨rfl, rfl⟩

set_option maxRecDepth 100000 in
set_option maxHeartbeats 600000 in
theorem size_wide (ad : Addr) (w : World) (n c x0 x1 x2 x3 : Nat) (c0 : w.cell? ad = some (.int .u8 (x0 : Int))) (c1 : w.cell? ⟨ad.block, ad.off + 1, none⟩ = some (.int .u8 (x1 : Int))) (c2 : w.cell? ⟨ad.block, ad.off + 2, none⟩ = some (.int .u8 (x2 : Int))) (c3 : w.cell? ⟨ad.block, ad.off + 3, none⟩ = some (.int .u8 (x3 : Int))) (g0 : ((x0 : Int) != 181) = false) (g1 : ((x1 : Int) != 98) = false) (g2 : decide ((x2 : Int) ≥ 64) = false) (g3 : x3 % 128 ≤ 6) (hn : 4 ≤ n) (hl : n ≤ 1152921504606846976) (hx : x3 < 256) (hb : 128 ≤ x3) : Calls Tryd.prog 44 #[.slice (some ad) n c] w fun e w' => e = .returned (.tuple #[.int .i64 (szOf x3 : Int), .bool true]) ∧ w = w' := by
  obtain ⟨u1, u2⟩ := u8_high hx
  rw [if_pos (by omega)] at u2
  have d2 : decide (((x3 : Int) % 128) > 6) = false := by simp; omega
  have d3 : ((x3 % 128 : Nat) : Int) = (x3 : Int) % 128 := by omega
  rw [d3] at u1
  have hs : szOf x3 = 16 + 8 * (x3 % 128) := by unfold szOf; rw [if_pos (by omega)]; omega
  have HS := Lib.hid hs
  have b3 : 0 ≤ (x3 : Int) % 128 ∧ (x3 : Int) % 128 ≤ 6 := by omega
  obtain ⟨b4, b5⟩ := b3
  clear d3 g3 hs hb
  go_enter Tryd.func44, Tryd.ntmps44
  go_wp2
  go_ret2
  exact ⟨ret2 (v_int (by rw [HS.out]; omega)) rfl, rfl⟩

set_option maxRecDepth 100000 in
set_option maxHeartbeats 600000 in
theorem size_near (ad : Addr) (w : World) (n c x0 x1 x2 x3 : Nat) (c0 : w.cell? ad = some (.int .u8 (x0 : Int))) (c1 : w.cell? ⟨ad.block, ad.off + 1, none⟩ = some (.int .u8 (x1 : Int))) (c2 : w.cell? ⟨ad.block, ad.off + 2, none⟩ = some (.int .u8 (x2 : Int))) (c3 : w.cell? ⟨ad.block, ad.off + 3, none⟩ = some (.int .u8 (x3 : Int))) (g0 : ((x0 : Int) != 181) = false) (g1 : ((x1 : Int) != 98) = false) (g2 : decide ((x2 : Int) ≥ 64) = false) (g3 : x3 % 128 ≤ 6) (hn : 4 ≤ n) (hl : n ≤ 1152921504606846976) (hx : x3 < 256) (hb : x3 < 128) : Calls Tryd.prog 44 #[.slice (some ad) n c] w fun e w' => e = .returned (.tuple #[.int .i64 (szOf x3 : Int), .bool true]) ∧ w = w' := by
  obtain ⟨u1, u2⟩ := u8_high hx
  rw [if_neg (by omega)] at u2
  have d2 : decide (((x3 : Int) % 128) > 6) = false := by simp; omega
  have d3 : ((x3 % 128 : Nat) : Int) = (x3 : Int) % 128 := by omega
  rw [d3] at u1
  have hs : szOf x3 = 16 + 4 * (x3 % 128) := by unfold szOf; rw [if_neg (by omega)]; omega
  have HS := Lib.hid hs
  have b3 : 0 ≤ (x3 : Int) % 128 ∧ (x3 : Int) % 128 ≤ 6 := by omega
  obtain ⟨b4, b5⟩ := b3
  clear d3 g3 hs hb
  go_enter Tryd.func44, Tryd.ntmps44
  go_wp2
  go_ret2
  exact ⟨ret2 (v_int (by rw [HS.out]; omega)) rfl, rfl⟩

theorem getD_in {l : List Nat} {i : Nat} (d : Nat) (h : i < l.length) : l.getD i d = l.getD i 0 := by
  rw [List.getD, List.getD, List.getElem?_eq_getElem h]; rfl
theorem head_bad {l : List Nat} {i : Nat} (h : i < l.length) (hi : (i = 0 ∧ l.getD 0 0 ≠ 181) ∨ (i = 1 ∧ l.getD 1 0 ≠ 98) ∨ (i = 2 ∧ 64 ≤ l.getD 2 0) ∨ (i = 3 ∧ 6 < l.getD 3 0 % 128)) : headB l = false := by
  rw [Bool.eq_false_iff]
  intro hh
  obtain ⟨a, b, c, d⟩ := headB_parts hh
  rcases hi with ⟨rfl, h2⟩ | ⟨rfl, h2⟩ | ⟨rfl, h2⟩ | ⟨rfl, h2⟩
  · rw [getD_in 181 h] at a; exact h2 a
  · rw [getD_in 98 h] at b; exact h2 b
  · omega
  · omega
theorem head_good {l : List Nat} (h0 : 0 < l.length → l.getD 0 0 = 181) (h1 : 1 < l.length → l.getD 1 0 = 98) (h2 : 2 < l.length → l.getD 2 0 < 64) (h3 : 3 < l.length → l.getD 3 0 % 128 ≤ 6) : headB l = true := by
  unfold headB
  have a : l.getD 0 181 = 181 := by
    by_cases h : 0 < l.length
    · rw [getD_in 181 h]; exact h0 h
    · exact getD_end (by omega)
  have b : l.getD 1 98 = 98 := by
    by_cases h : 1 < l.length
    · rw [getD_in 98 h]; exact h1 h
    · exact getD_end (by omega)
  have c : l.getD 2 0 < 64 := by
    by_cases h : 2 < l.length
    · exact h2 h
    · rw [getD_end (by omega)]; decide
  have d : l.getD 3 0 % 128 ≤ 6 := by
    by_cases h : 3 < l.length
    · exact h3 h
    · rw [getD_end (by omega)]; decide
  rw [a, b, decide_eq_true c, decide_eq_true d]; rfl
/-- what size tells -/
def szV (l : List Nat) : Int := if headB l = false then 0 else if l.length < 4 then 4 else (szOf (l.getD 3 0) : Int)
theorem add_plain' (ad : Addr) {i : Nat} (h : i ≠ 0) : ad.add i = ⟨ad.block, ad.off + i, none⟩ := by unfold Addr.add; rw [if_neg h]
theorem ne_of {x k : Nat} (h : x ≠ k) : ((x : Int) != (k : Int)) = true := by rw [bne_iff_ne]; omega
theorem eq_of' {x k : Nat} (h : x = k) : ((x : Int) != (k : Int)) = false := by rw [bne_eq_false_iff_eq]; omega

theorem Rhead_any (A : Option Addr) (c : Nat) (l : List Nat) (hb : Bytes l) (hl : l.length ≤ 1152921504606846976) (w : World) (hr : SlAt w A (u8v l)) : Calls Tryd.prog 48 #[.slice A l.length c] w fun e w' => e = .returned (.bool (headB l)) ∧ w = w' := by
  have key : ∀ ad : Addr, A = some ad → ∀ i, i < l.length → w.cell? (ad.add i) = some (.int .u8 ((l.getD i 0 : Nat) : Int)) := fun ad e i hi => by
    obtain ⟨ad', e', _, hc⟩ := hr.at hi
    rw [e] at e'; obtain rfl := Option.some.inj e'; exact hc
  by_cases n0 : l.length = 0
  · obtain rfl := List.eq_nil_of_length_eq_zero n0
    exact Rhead_few0 A c w
  obtain ⟨ad, rfl, _⟩ := hr (by rw [u8v_len]; omega)
  have c0 := key ad rfl 0 (by omega)
  rw [add_nought] at c0
  rcases Decidable.em (¬ (l.getD 0 0 = 181)) with h0 | h0
  · rw [head_bad (i := 0) (by omega) (.inl ⟨rfl, h0⟩)]
    exact Rhead_bad0 ad w _ c _ c0  (ne_of h0) (by omega) hl
  have h0 := Decidable.not_not.1 h0
  by_cases n1 : l.length = 1
  · have e := head_good (fun _ => h0) (fun h => absurd h (by omega)) (fun h => absurd h (by omega)) (fun h => absurd h (by omega))
    rw [e]
    exact Rhead_few1 ad w _ c _ c0 (eq_of' h0) n1
  have c1 := key ad rfl 1 (by omega)
  rw [add_plain' ad (by decide)] at c1
  rcases Decidable.em (¬ (l.getD 1 0 = 98)) with h1 | h1
  · rw [head_bad (i := 1) (by omega) (.inr (.inl ⟨rfl, h1⟩))]
    exact Rhead_bad1 ad w _ c _ _ c0 c1 (eq_of' h0) (ne_of h1) (by omega) hl
  have h1 := Decidable.not_not.1 h1
  by_cases n2 : l.length = 2
  · have e := head_good (fun _ => h0) (fun h => h1) (fun h => absurd h (by omega)) (fun h => absurd h (by omega))
    rw [e]
    exact Rhead_few2 ad w _ c _ _ c0 c1 (eq_of' h0) (eq_of' h1) n2
  have c2 := key ad rfl 2 (by omega)
  rw [add_plain' ad (by decide)] at c2
  rcases Decidable.em (¬ (l.getD 2 0 < 64)) with h2 | h2
  · rw [head_bad (i := 2) (by omega) (.inr (.inr (.inl ⟨rfl, (by omega)⟩)))]
    exact Rhead_bad2 ad w _ c _ _ _ c0 c1 c2 (eq_of' h0) (eq_of' h1) (decide_eq_true (by omega)) (by omega) hl
  have h2 := Decidable.not_not.1 h2
  by_cases n3 : l.length = 3
  · have e := head_good (fun _ => h0) (fun h => h1) (fun h => h2) (fun h => absurd h (by omega))
    rw [e]
    exact Rhead_few3 ad w _ c _ _ _ c0 c1 c2 (eq_of' h0) (eq_of' h1) (decide_eq_false (by omega)) n3
  have c3 := key ad rfl 3 (by omega)
  rw [add_plain' ad (by decide)] at c3
  rcases Decidable.em (¬ (l.getD 3 0 % 128 ≤ 6)) with h3 | h3
  · rw [head_bad (i := 3) (by omega) (.inr (.inr (.inr ⟨rfl, (by omega)⟩)))]
    exact Rhead_bad3 ad w _ c _ _ _ _ c0 c1 c2 c3 (eq_of' h0) (eq_of' h1) (decide_eq_false (by omega)) (decide_eq_true (by omega)) (by omega) hl
  have h3 := Decidable.not_not.1 h3
  have e := head_good (fun _ => h0) (fun _ => h1) (fun _ => h2) (fun _ => h3)
  rw [e]
  exact Rhead_full ad w _ c _ _ _ _ c0 c1 c2 c3 (eq_of' h0) (eq_of' h1) (decide_eq_false (by omega)) (decide_eq_false (by omega)) (by omega) hl

theorem size_any (A : Option Addr) (c : Nat) (l : List Nat) (hb : Bytes l) (hl : l.length ≤ 1152921504606846976) (w : World) (hr : SlAt w A (u8v l)) : Calls Tryd.prog 44 #[.slice A l.length c] w fun e w' => e = .returned (.tuple #[.int .i64 (szV l), .bool (headB l)]) ∧ w = w' := by
  have key : ∀ ad : Addr, A = some ad → ∀ i, i < l.length → w.cell? (ad.add i) = some (.int .u8 ((l.getD i 0 : Nat) : Int)) := fun ad e i hi => by
    obtain ⟨ad', e', _, hc⟩ := hr.at hi
    rw [e] at e'; obtain rfl := Option.some.inj e'; exact hc
  by_cases n0 : l.length = 0
  · obtain rfl := List.eq_nil_of_length_eq_zero n0
    exact size_few0 A c w
  obtain ⟨ad, rfl, _⟩ := hr (by rw [u8v_len]; omega)
  have c0 := key ad rfl 0 (by omega)
  rw [add_nought] at c0
  rcases Decidable.em (¬ (l.getD 0 0 = 181)) with h0 | h0
  · unfold szV; rw [head_bad (i := 0) (by omega) (.inl ⟨rfl, h0⟩), if_pos rfl]
    exact size_bad0 ad w _ c _ c0  (ne_of h0) (by omega) hl
  have h0 := Decidable.not_not.1 h0
  by_cases n1 : l.length = 1
  · have e := head_good (fun _ => h0) (fun h => absurd h (by omega)) (fun h => absurd h (by omega)) (fun h => absurd h (by omega))
    unfold szV; rw [e, if_neg (by decide), if_pos (by omega)]
    exact size_few1 ad w _ c _ c0 (eq_of' h0) n1
  have c1 := key ad rfl 1 (by omega)
  rw [add_plain' ad (by decide)] at c1
  rcases Decidable.em (¬ (l.getD 1 0 = 98)) with h1 | h1
  · unfold szV; rw [head_bad (i := 1) (by omega) (.inr (.inl ⟨rfl, h1⟩)), if_pos rfl]
    exact size_bad1 ad w _ c _ _ c0 c1 (eq_of' h0) (ne_of h1) (by omega) hl
  have h1 := Decidable.not_not.1 h1
  by_cases n2 : l.length = 2
  · have e := head_good (fun _ => h0) (fun h => h1) (fun h => absurd h (by omega)) (fun h => absurd h (by omega))
    unfold szV; rw [e, if_neg (by decide), if_pos (by omega)]
    exact size_few2 ad w _ c _ _ c0 c1 (eq_of' h0) (eq_of' h1) n2
  have c2 := key ad rfl 2 (by omega)
  rw [add_plain' ad (by decide)] at c2
  rcases Decidable.em (¬ (l.getD 2 0 < 64)) with h2 | h2
  · unfold szV; rw [head_bad (i := 2) (by omega) (.inr (.inr (.inl ⟨rfl, (by omega)⟩))), if_pos rfl]
    exact size_bad2 ad w _ c _ _ _ c0 c1 c2 (eq_of' h0) (eq_of' h1) (decide_eq_true (by omega)) (by omega) hl
  have h2 := Decidable.not_not.1 h2
  by_cases n3 : l.length = 3
  · have e := head_good (fun _ => h0) (fun h => h1) (fun h => h2) (fun h => absurd h (by omega))
    unfold szV; rw [e, if_neg (by decide), if_pos (by omega)]
    exact size_few3 ad w _ c _ _ _ c0 c1 c2 (eq_of' h0) (eq_of' h1) (decide_eq_false (by omega)) n3
  have c3 := key ad rfl 3 (by omega)
  rw [add_plain' ad (by decide)] at c3
  rcases Decidable.em (¬ (l.getD 3 0 % 128 ≤ 6)) with h3 | h3
  · unfold szV; rw [head_bad (i := 3) (by omega) (.inr (.inr (.inr ⟨rfl, (by omega)⟩))), if_pos rfl]
    exact size_bad3 ad w _ c _ _ _ _ c0 c1 c2 c3 (eq_of' h0) (eq_of' h1) (decide_eq_false (by omega)) (by omega) (by omega) hl (hb.getD 3)
  have h3 := Decidable.not_not.1 h3
  have e := head_good (fun _ => h0) (fun _ => h1) (fun _ => h2) (fun _ => h3)
  unfold szV; rw [e, if_neg (by decide), if_neg (by omega)]
  rcases Nat.lt_or_ge (l.getD 3 0) 128 with hh | hh
  · exact size_near ad w _ c _ _ _ _ c0 c1 c2 c3 (eq_of' h0) (eq_of' h1) (decide_eq_false (by omega)) h3 (by omega) hl (hb.getD 3) hh
  · exact size_wide ad w _ c _ _ _ _ c0 c1 c2 c3 (eq_of' h0) (eq_of' h1) (decide_eq_false (by omega)) h3 (by omega) hl (hb.getD 3) hh

end Go.Proofs.YtmpcnhiklpahnaaDoor
