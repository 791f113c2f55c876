/- What the law's walk rests on, part 1: contracts of functions and plain facts. -/
import Derived.Test.YtgkcpnidmfejeaaGreatDoorRows
import Derived.WalkKit
import Derived.WalkSpells
import Derived.WalkLawsBesides
import Derived.BigQuiet
import Derived.Lib.Hide
import Derived.Deep.OwnRows
import Derived.OwnWalk
import Derived.LoopTactic
import Derived.Outline
import Derived.IntWalk
import Derived.Shelf.Bits.Mul64
import Derived.Laws.Externs
import Derived.Deep.QuietTactic
import Derived.Deep.RegionWith
import Derived.OrdersHeld
import Derived.StillTail
import Derived.Deep.RegionHeld3
import Derived.Maps.AppendAt
import Ieee.Arith
import Derived.Lib.TrailingZeros
import Derived.Lib.BitFns
import Derived.Lib.Strings
import Derived.Lib.Slices
import Derived.Lib.Small
import Derived.Lib.Walk
import Derived.Deep.AppendLies
import Derived.Deep.Draws
import Derived.Laws.OwnMore
import Derived.Deep.DeepCutAuto
import Derived.Deep.CutBlock
import Derived.Lib.OwnKind
import Derived.ProofKit
import Derived.OpenShut
import Derived.ShutString
import Derived.ChangeOld
import Derived.Below
import Derived.Deep.DeepHandedRow
import Derived.Lib.LaidTab
import Derived.ChangeSlices
import Derived.Carry
import Derived.SizedLaws
import Derived.Deep.Strs
import Derived.Deep.Slices
import Derived.Lib.SmallJoins
set_option linter.unusedVariables false
set_option linter.unusedSimpArgs false
set_option maxRecDepth 100000
set_option maxHeartbeats 4000000
namespace Go.Proofs.YtgkcpnidmfejeaaGreatDoor
open Go.RowKit
theorem wi {p : Prop} (h : p := by repeat (with_reducible first | exact Within.refl _ | assumption | refine Within.alloc ?_ _ | refine Within.drew ?_ | refine Within.drewN ?_ _ | refine Within.setCell ?_ (by first | (simp; done) | (simp; omega)) _ | refine Within.trans ?_ (by assumption))) : p := h
theorem wa {p : Prop} (h : p := by repeat (with_reducible first | exact Within.refl _ | assumption | refine arW_within ?_ _ _ _ | refine Within.alloc ?_ _ | refine Within.drew ?_ | refine Within.drewN ?_ _ | refine Within.setCell ?_ (by first | (simp; done) | (simp; omega)) _ | refine Within.trans ?_ (by assumption))) : p := h
theorem bi {p : Prop} (h : p := by repeat (with_reducible first | exact Below.refl _ _ | assumption | refine Below.drew ?_ | refine Below.alloc ?_ (by first | assumption | (simp; omega)) _ | refine Below.trans ?_ (by assumption))) : p := h
theorem wnt {p : Prop} (h : p := by first | rfl | decide | (simp [Region.wanted, yielded]; done)) : p := h
theorem om {p : Prop} (h : p := by omega) : p := h
theorem dc {p : Prop} (h : p := by decide) : p := h
theorem kr {p : Prop} (h : p := by kernel_rfl) : p := h
theorem ab {p q : Prop} (h : p → q := by intro h; exact absurd h (by decide)) : p → q := h
theorem Hh {p : Prop} (h : p) : Hid p := Lib.hid h
theorem pu : (∀ (a : Act) (d : Tmp) (v : Value), a.put (some d) v = { a with tmps := a.tmps.setIfInBounds d v }) ∧ (∀ (a : Act) (v : Value), a.put none v = a) ∧ (∀ (l : List Value) (i : Nat) (v : Value), l.toArray.setIfInBounds i v = (l.set i v).toArray) ∧ (∀ (l : List Value) (x v : Value), (x :: l).set 0 v = v :: l) ∧ (∀ (l : List Value) (n : Nat) (x v : Value), (x :: l).set (n + 1) v = x :: l.set n v) :=
 ⟨fun _ _ _ => rfl, fun _ _ => rfl, fun _ _ _ => List.setIfInBounds_toArray .., fun _ _ _ => rfl, fun _ _ _ _ => rfl⟩
end Go.Proofs.YtgkcpnidmfejeaaGreatDoor
section
namespace Go.Proofs.YtgkcpnidmfejeaaGreatDoor
open Go.RowKit
def Within (W w : World) : Prop := Below W.heap.size W w
theorem Within.refl (W : World) : Within W W := Below.refl _ _
theorem Within.trans {a b c : World} (h : Within a b) (k : Within b c) : Within a c := Below.trans h (Below.mono k h.size)
theorem Within.alloc {a w : World} (h : Within a w) (o : Obj) : Within a (w.alloc o) := Below.alloc h h.size o
theorem Within.drew {a w : World} (h : Within a w) : Within a w.drew := Below.drew h
theorem Within.drewN {a w : World} (h : Within a w) : ∀ n, Within a (w.drewN n) := fun _ => ⟨h.os, h.tape, h.output, h.size, h.block⟩
theorem Within.setCell {a w : World} (h : Within a w) {p : Addr} (hp : a.heap.size ≤ p.block) (u : Value) : Within a (w.setCell p u) := Below.setCell h hp u
theorem Within.cells {W w : World} (h : Within W w) : ∀ b o, b < W.heap.size → w.cell? ⟨b, o, none⟩ = W.cell? ⟨b, o, none⟩ := fun b o hb => h.cell (p := ⟨b, o, none⟩) hb
theorem Within.frozens {W w : World} (h : Within W w) : ∀ b o, b < W.heap.size → w.frozen? ⟨b, o, none⟩ = W.frozen? ⟨b, o, none⟩ := fun b o hb => h.frozen (p := ⟨b, o, none⟩) hb
theorem Within.sizes {W w : World} (h : Within W w) : W.heap.size ≤ w.heap.size := h.size
theorem Within.call {P : Program} {W w : World} (h : Within W w) {f : FuncId} {args : Array Value} {v : Value}
 (hc : Calls P f args w fun e w' => e = .returned v ∧ Within w w') : Calls P f args w fun e w' => e = .returned v ∧ Within W w' :=
 hc.mono fun _ _ ⟨he, hb⟩ => ⟨he, h.trans hb⟩
theorem Within.same {P : Program} {W w : World} (h : Within W w) {f : FuncId} {args : Array Value} {v : Value}
 (hc : Calls P f args w fun e w' => e = .returned v ∧ w = w') : Calls P f args w fun e w' => e = .returned v ∧ Within W w' :=
 hc.mono fun _ _ ⟨he, hb⟩ => ⟨he, hb ▸ h⟩
section
variable {P : Program} {ops : Array Oper} {Q : Act → Prop} {a : Act} {o : Oper} {rest : List Oper} {v : Value}
theorem wp_region_within {id : Nat} {Q : Exit → Act → World → Prop} {w : World} {l : List Oper} (hm : P.follows .mixedOrders = true) (hB : Region.lexB .any l.toArray = true)
 (h : wpQuiet P l.toArray (Within w) (fun a' => ∀ w', Within w w' → Q .normal a' w') l a) : (Code.region id l.toArray true).wp P Q a w :=
 wp_region_quiet (C := Within w) hm hB (Within.refl w).drew (by simpa using h)
theorem wpq_step {C : World → Prop} (hg : o.guard = none) (h1 : ∀ w, C w → o.quietAt P a C w v) (h2 : wpQuiet P ops C Q rest (a.put o.dst v)) : wpQuiet P ops C Q (o :: rest) a :=
 wpQuiet_step fun K hK => by
  rw [if_pos (by simp [Region.wanted, hg])]
  exact ⟨v, h1, hK _ h2⟩
end
theorem ret_int {k : IntKind} {a b : Int} (h : a = b) : Ending.returned (.int k a) = .returned (.int k b) := by rw [h]
theorem ret_bool {a b : Bool} (h : a = b) : Ending.returned (.bool a) = .returned (.bool b) := by rw [h]
theorem ret_dec {a b : Prop} [Decidable a] [Decidable b] (h : a ↔ b) : Ending.returned (.bool (decide a)) = .returned (.bool (decide b)) := by rw [decide_eq_decide.2 h]
theorem v_int {k : IntKind} {a b : Int} (h : a = b) : Value.int k a = .int k b := by rw [h]
theorem v_bool {a b : Bool} (h : a = b) : Value.bool a = .bool b := by rw [h]
theorem ret3 {a b c d x y : Value} (h1 : a = c) (h2 : b = d) (h3 : x = y) : Ending.returned (.tuple #[a, b, x]) = .returned (.tuple #[c, d, y]) := by rw [h1, h2, h3]
/-! bits of words, as the walk spells them -/
theorem u64_sign (b : Nat) (hb : b < 18446744073709551616) : bits .and .u64 (b : Int) 9223372036854775808 = ((b / 9223372036854775808 * 9223372036854775808 : Nat) : Int) := by
 have h := u64_and_nat b 9223372036854775808 hb dc
 have e := nat_bit 63 b
 rw [show (9223372036854775808 : Int) = ((9223372036854775808 : Nat) : Int) from rfl, h]
 rw [show (2:Nat) ^ 63 = 9223372036854775808 from rfl] at e
 rw [e]; omega
theorem u64_unsign (b : Nat) (hb : b < 18446744073709551616) : bits .andNot .u64 (b : Int) 9223372036854775808 = ((b % 9223372036854775808 : Nat) : Int) := by
 have h := u64_andNot_nat b 9223372036854775808 hb dc
 rw [show (9223372036854775808 : Int) = ((9223372036854775808 : Nat) : Int) from rfl, h]
 rw [show 18446744073709551615 - 9223372036854775808 = 2 ^ 63 - 1 from rfl, Nat.and_two_pow_sub_one_eq_mod]
theorem u64_xsign (b : Nat) (hb : b < 18446744073709551616) : bits .xor .u64 (b : Int) 9223372036854775808 = (((b + 9223372036854775808) % 18446744073709551616 : Nat) : Int) := by
 have h := u64_xor_nat b 9223372036854775808 hb dc
 rw [show (9223372036854775808 : Int) = ((9223372036854775808 : Nat) : Int) from rfl, h]
 have e : b ^^^ 9223372036854775808 = if b < 9223372036854775808 then b + 9223372036854775808 else b - 9223372036854775808 := by
  by_cases h1 : b < 9223372036854775808
  ·rw [if_pos h1, Nat.xor_comm, Nat.add_comm]
   have := Nat.two_pow_add_eq_or_of_lt (i := 63) (b := b) h1 1
   rw [Nat.mul_one, show (2:Nat)^63 = 9223372036854775808 from rfl] at this
   rw [this]
   apply Nat.eq_of_testBit_eq
   intro i
   rw [Nat.testBit_xor, Nat.testBit_or, show (9223372036854775808 : Nat) = 2 ^ 63 from rfl, Nat.testBit_two_pow]
   by_cases hi : 63 = i
   ·subst hi
    rw [Nat.testBit_lt_two_pow h1]; simp
   ·simp [hi]
  ·rw [if_neg h1]
   have h2 : b - 9223372036854775808 < 2 ^ 63 := by omega
   have := Nat.two_pow_add_eq_or_of_lt (i := 63) (b := b - 9223372036854775808) h2 1
   rw [Nat.mul_one, show (2:Nat)^63 = 9223372036854775808 from rfl] at this
   have hb' : b = 9223372036854775808 + (b - 9223372036854775808) := by omega
   conv => lhs; rw [hb', this]
   apply Nat.eq_of_testBit_eq
   intro i
   rw [Nat.testBit_xor, Nat.testBit_or, show (9223372036854775808 : Nat) = 2 ^ 63 from rfl, Nat.testBit_two_pow]
   by_cases hi : 63 = i
   ·subst hi
    rw [Nat.testBit_lt_two_pow h2]; simp
   ·simp [hi]
 rw [e]; split <;> omega
theorem u64_mask (k : Nat) (hk : k ≤ 64) (b : Nat) (hb : b < 18446744073709551616) : bits .and .u64 (b : Int) ((2 ^ k - 1 : Nat) : Int) = ((b % 2 ^ k : Nat) : Int) := by
 have hp : 2 ^ k ≤ 18446744073709551616 := by
  rw [show (18446744073709551616 : Nat) = 2 ^ 64 from rfl]; exact Nat.pow_le_pow_right dc hk
 have h0 : 0 < 2 ^ k := Nat.two_pow_pos k
 rw [u64_and_nat b _ hb om, Nat.and_two_pow_sub_one_eq_mod]
theorem u64_join (i : Nat) (a b : Nat) (ha : a < 18446744073709551616) (hb : b < 18446744073709551616) (h1 : a % 2 ^ i = 0) (h2 : b < 2 ^ i) : bits .or .u64 (a : Int) (b : Int) = ((a + b : Nat) : Int) := by
 rw [u64_or_nat a b ha hb, nat_join i a b h1 h2]
end Go.Proofs.YtgkcpnidmfejeaaGreatDoor
end
namespace Go.Proofs.YtgkcpnidmfejeaaGreatDoor
open Go.RowKit
theorem box2 (w : World) (a b : Array Value) (s t : TypeId) : Within w ((w.alloc (.cells a s)).alloc (.cells b t)) ∧ ((w.alloc (.cells a s)).alloc (.cells b t)).heap[w.heap.size]? = some (.cells a s (0, 0)) ∧ ((w.alloc (.cells a s)).alloc (.cells b t)).heap[w.heap.size + 1]? = some (.cells b t (0, 0)) := by
 have k : Within (w.alloc (.cells a s)) ((w.alloc (.cells a s)).alloc (.cells b t)) := (Within.refl _).alloc _
 have h1 := heap_alloc_new (w.alloc (.cells a s)) (.cells b t)
 rw [show (w.alloc (.cells a s)).heap.size = w.heap.size + 1 by simp] at h1
 exact ⟨((Within.refl w).alloc _).alloc _, (k.block _ (by simp)).trans (heap_alloc_new w _), h1⟩
theorem box3 (w : World) (a b c : Array Value) (s t u : TypeId) : Within w (((w.alloc (.cells a s)).alloc (.cells b t)).alloc (.cells c u)) ∧ (((w.alloc (.cells a s)).alloc (.cells b t)).alloc (.cells c u)).heap[w.heap.size]? = some (.cells a s (0, 0)) ∧
 (((w.alloc (.cells a s)).alloc (.cells b t)).alloc (.cells c u)).heap[w.heap.size + 1]? = some (.cells b t (0, 0)) ∧ (((w.alloc (.cells a s)).alloc (.cells b t)).alloc (.cells c u)).heap[w.heap.size + 2]? = some (.cells c u (0, 0)) := by
 obtain ⟨k1, k2, k3⟩ := box2 w a b s t
 have k : Within ((w.alloc (.cells a s)).alloc (.cells b t)) (((w.alloc (.cells a s)).alloc (.cells b t)).alloc (.cells c u)) := (Within.refl _).alloc _
 have h1 := heap_alloc_new ((w.alloc (.cells a s)).alloc (.cells b t)) (.cells c u)
 rw [show ((w.alloc (.cells a s)).alloc (.cells b t)).heap.size = w.heap.size + 2 by simp] at h1
 exact ⟨k1.trans k, (k.block _ (by simp; omega)).trans k2, (k.block _ (by simp)).trans k3, h1⟩
end Go.Proofs.YtgkcpnidmfejeaaGreatDoor
section
namespace Go.Proofs.YtgkcpnidmfejeaaGreatDoor.P64
def wval : List Nat → Nat
 | [] => 0
 | x :: l => x + 18446744073709551616 * wval l
def Words (l : List Nat) : Prop := ∀ x ∈ l, x < 18446744073709551616
def lo (l : List Nat) (k : Nat) : Nat := wval (l.take k)
theorem wval_append (a b : List Nat) : wval (a ++ b) = wval a + 18446744073709551616 ^ a.length * wval b := by
 induction a with
 | nil => simp [wval]
 | cons x a ih => simp only [List.cons_append, wval, ih, List.length_cons, Nat.pow_succ]; rw [Nat.mul_add, ← Nat.mul_assoc, Nat.mul_comm 18446744073709551616 (18446744073709551616 ^ a.length), Nat.add_assoc]
theorem wval_zeros (n : Nat) : wval (List.replicate n 0) = 0 := by
 induction n with
 | zero => rfl
 | succ n ih => simp [List.replicate_succ, wval, ih]
theorem wval_lt (l : List Nat) (h : Words l) : wval l < 18446744073709551616 ^ l.length := by
 induction l with
 | nil => simp [wval]
 | cons x l ih =>
  have h1 := ih (fun y hy => h y (List.mem_cons_of_mem _ hy))
  have h2 := h x List.mem_cons_self
  simp only [wval, List.length_cons, Nat.pow_succ]
  omega
theorem lo_zero (l : List Nat) : lo l 0 = 0 := by simp [lo, wval]
theorem lo_all (l : List Nat) {k : Nat} (h : l.length ≤ k) : lo l k = wval l := by unfold lo; rw [List.take_of_length_le h]
theorem lo_succ (l : List Nat) (k : Nat) : lo l (k + 1) = lo l k + 18446744073709551616 ^ k * l.getD k 0 := by
 unfold lo
 by_cases h : k < l.length
 ·rw [List.take_succ_eq_append_getElem h, wval_append, List.length_take, Nat.min_eq_left om, List.getD_eq_getElem?_getD, List.getElem?_eq_getElem h]
  simp [wval]
 ·rw [List.take_of_length_le om, List.take_of_length_le om, List.getD_eq_getElem?_getD, List.getElem?_eq_none om]
  simp
theorem lo_set_same (l : List Nat) (k x : Nat) : lo (l.set k x) k = lo l k := by
 unfold lo; rw [List.take_set_of_le (Nat.le_refl _)]
theorem lo_set_ge (l : List Nat) (k j x : Nat) (h : k ≤ j) : lo (l.set j x) k = lo l k := by
 unfold lo; rw [List.take_set_of_le h]
theorem getD_set_eq (l : List Nat) (k x : Nat) (h : k < l.length) : (l.set k x).getD k 0 = x := by
 simp [List.getD_eq_getElem?_getD, h]
theorem lset_ne (l : List Nat) (k j x : Nat) (h : k ≠ j) : (l.set k x).getD j 0 = l.getD j 0 := by
 simp [List.getD_eq_getElem?_getD, h]
theorem lo_set_succ (l : List Nat) (k x : Nat) (h : k < l.length) : lo (l.set k x) (k + 1) = lo l k + 18446744073709551616 ^ k * x := by
 rw [lo_succ, lo_set_same, getD_set_eq l k x h]
theorem Words.set {l : List Nat} (h : Words l) (k x : Nat) (hx : x < 18446744073709551616) : Words (l.set k x) := by
 intro y hy
 rcases List.mem_or_eq_of_mem_set hy with h1 | h1
 ·exact h y h1
 ·omega
theorem Words.getD {l : List Nat} (h : Words l) (k : Nat) : l.getD k 0 < 18446744073709551616 := by
 by_cases hk : k < l.length
 ·rw [List.getD_eq_getElem?_getD, List.getElem?_eq_getElem hk]; exact h _ (List.getElem_mem hk)
 ·rw [List.getD_eq_getElem?_getD, List.getElem?_eq_none om]; decide
theorem Words.take {l : List Nat} (h : Words l) (k : Nat) : Words (l.take k) := fun y hy => h y (List.mem_of_mem_take hy)
theorem Words.drop {l : List Nat} (h : Words l) (k : Nat) : Words (l.drop k) := fun y hy => h y (List.mem_of_mem_drop hy)
theorem Words.zeros (n : Nat) : Words (List.replicate n 0) := fun y hy => by rw [(List.mem_replicate.1 hy).2]; decide
theorem lo_lt (l : List Nat) (h : Words l) (k : Nat) : lo l k < 18446744073709551616 ^ k := by
 have h1 := wval_lt _ (h.take k)
 refine Nat.lt_of_lt_of_le h1 (Nat.pow_le_pow_right dc ?_)
 rw [List.length_take]; exact Nat.min_le_left _ _
theorem wval_split (l : List Nat) (k : Nat) : wval l = lo l k + 18446744073709551616 ^ k * wval (l.drop k) := by
 by_cases h : k ≤ l.length
 ·conv => lhs; rw [← List.take_append_drop k l]
  rw [wval_append, List.length_take, Nat.min_eq_left h]; rfl
 ·rw [lo_all l om, List.drop_eq_nil_of_le om]; simp [wval]
/-! the words of a number -/
def dg (n : Nat) : List Nat := if n = 0 then [] else n % 18446744073709551616 :: dg (n / 18446744073709551616)
termination_by n
decreasing_by omega
theorem dg_zero : dg 0 = [] := by unfold dg; rfl
theorem dg_pos {n : Nat} (h : n ≠ 0) : dg n = n % 18446744073709551616 :: dg (n / 18446744073709551616) := by rw [dg, if_neg h]
theorem wval_dg (n : Nat) : wval (dg n) = n := by
 induction n using Nat.strongRecOn with
 | ind n ih =>
  by_cases h : n = 0
  ·subst h; rw [dg_zero]; rfl
  ·rw [dg_pos h]; simp only [wval]; rw [ih _ om]; omega
theorem words_dg (n : Nat) : Words (dg n) := by
 induction n using Nat.strongRecOn with
 | ind n ih =>
  by_cases h : n = 0
  ·subst h; rw [dg_zero]; intro x hx; simp at hx
  ·rw [dg_pos h]
   intro x hx
   rcases List.mem_cons.1 hx with h1 | h1
   ·omega
   ·exact ih _ om x h1
theorem dg_len_pos {n : Nat} (h : n ≠ 0) : 0 < (dg n).length := by rw [dg_pos h]; simp
theorem dg_of (l : List Nat) (hw : Words l) (hl : 0 < l.length → l.getD (l.length - 1) 0 ≠ 0) : l = dg (wval l) := by
 induction l with
 | nil => rw [show wval [] = 0 from rfl, dg_zero]
 | cons x l ih =>
  have hx := hw x List.mem_cons_self
  have hl' : 0 < l.length → l.getD (l.length - 1) 0 ≠ 0 := by
   intro h
   have := hl (by simp)
   simp only [List.length_cons, Nat.add_sub_cancel] at this
   obtain ⟨k, hk⟩ : ∃ k, l.length = k + 1 := ⟨l.length - 1, by omega⟩
   rw [hk] at this ⊢
   simpa using this
  have ih' := ih (fun y hy => hw y (List.mem_cons_of_mem _ hy)) hl'
  have hne : wval (x :: l) ≠ 0 := by
   simp only [wval]
   intro h0
   have hx0 : x = 0 := by omega
   have hv0 : wval l = 0 := by omega
   rw [hv0, dg_zero] at ih'
   subst ih'
   have := hl (by simp)
   simp at this
   exact this hx0
  rw [dg_pos hne]
  simp only [wval]
  rw [show (x + 18446744073709551616 * wval l) % 18446744073709551616 = x by omega, show (x + 18446744073709551616 * wval l) / 18446744073709551616 = wval l by omega, ← ih']
theorem dg_last {n : Nat} (h : n ≠ 0) : (dg n).getD ((dg n).length - 1) 0 ≠ 0 := by
 induction n using Nat.strongRecOn with
 | ind n ih =>
  rw [dg_pos h]
  by_cases h1 : n / 18446744073709551616 = 0
  ·rw [h1, dg_zero]; simp; omega
  ·have := ih _ om h1
   obtain ⟨k, hk⟩ : ∃ k, (dg (n / 18446744073709551616)).length = k + 1 := ⟨_, (Nat.succ_pred_eq_of_pos (dg_len_pos h1)).symm⟩
   rw [hk] at this
   simp only [List.length_cons, hk, Nat.add_sub_cancel] at this ⊢
   simpa using this
theorem dg_cut (l : List Nat) (hw : Words l) (j : Nat) (hj : j ≤ l.length) (hz : ∀ i, j ≤ i → l.getD i 0 = 0) (hn : 0 < j → l.getD (j - 1) 0 ≠ 0) : l.take j = dg (wval l) := by
 have hd : wval (l.drop j) = 0 := by
  have : ∀ (m : List Nat), (∀ i, m.getD i 0 = 0) → wval m = 0 := by
   intro m
   induction m with
   | nil => intro _; rfl
   | cons x m ih =>
    intro h
    have h0 := h 0
    have h1 := ih (fun i => by have := h (i + 1); simpa using this)
    simp at h0
    simp [wval, h0, h1]
  apply this
  intro i
  have := hz (j + i) om
  simp only [List.getD_eq_getElem?_getD, List.getElem?_drop] at this ⊢
  exact this
 have e : wval l = wval (l.take j) := by rw [wval_split l j, hd]; simp [lo]
 rw [e]
 apply dg_of _ (hw.take j)
 intro h
 rw [List.length_take, Nat.min_eq_left hj] at h ⊢
 have := hn h
 simp only [List.getD_eq_getElem?_getD, List.getElem?_take] at this ⊢
 rw [if_pos om]
 exact this
theorem dg_len_le {n k : Nat} (h : n < 18446744073709551616 ^ k) : (dg n).length ≤ k := by
 induction k generalizing n with
 | zero => have : n = 0 := by simpa using h
           subst this; rw [dg_zero]; exact Nat.le_refl _
 | succ k ih =>
  by_cases h0 : n = 0
  ·subst h0; rw [dg_zero]; exact Nat.zero_le _
  ·rw [dg_pos h0, List.length_cons]
   have : n / 18446744073709551616 < 18446744073709551616 ^ k := by
    rw [Nat.div_lt_iff_lt_mul dc, ← Nat.pow_succ]; exact h
   have := ih this
   omega
theorem lt_of_dg (n : Nat) : n < 18446744073709551616 ^ (dg n).length := by have := wval_lt _ (words_dg n); rwa [wval_dg] at this
theorem le_of_dg {n : Nat} (h : n ≠ 0) : 18446744073709551616 ^ ((dg n).length - 1) ≤ n := by
 rcases Nat.lt_or_ge n (18446744073709551616 ^ ((dg n).length - 1)) with h1 | h1
 ·have := dg_len_le h1; have := dg_len_pos h; omega
 ·exact h1
theorem dg_len_mono {a b : Nat} (h : a ≤ b) : (dg a).length ≤ (dg b).length := dg_len_le (Nat.lt_of_le_of_lt h (lt_of_dg b))
theorem lt_of_len {a b : Nat} (h : (dg a).length < (dg b).length) : a < b := by
 rcases Nat.lt_or_ge a b with h1 | h1
 ·exact h1
 ·have := dg_len_mono h1; omega
theorem lt_of_top {a b i : Nat} (hl : (dg a).length = (dg b).length) (he : ∀ j, i < j → (dg a).getD j 0 = (dg b).getD j 0) (hlt : (dg a).getD i 0 < (dg b).getD i 0) : a < b := by
 have hs : ∀ (x y : List Nat), x.length = y.length → (∀ j, i < j → x.getD j 0 = y.getD j 0) → x.drop (i + 1) = y.drop (i + 1) := by
  intro x y hxy hj
  apply List.ext_getElem?
  intro k
  rw [List.getElem?_drop, List.getElem?_drop]
  have := hj (i + 1 + k) om
  simp only [List.getD_eq_getElem?_getD] at this
  by_cases hk : i + 1 + k < x.length
  ·rw [List.getElem?_eq_getElem hk, List.getElem?_eq_getElem om] at this ⊢
   simpa using this
  ·rw [List.getElem?_eq_none om, List.getElem?_eq_none om]
 have hd := hs _ _ hl he
 have ha := wval_split (dg a) (i + 1)
 have hb := wval_split (dg b) (i + 1)
 rw [wval_dg, lo_succ] at ha hb
 rw [hd] at ha
 have h1 := lo_lt (dg a) (words_dg a) i
 generalize lo (dg a) i = p at *
 generalize lo (dg b) i = q at *
 generalize wval (List.drop (i + 1) (dg b)) = r at *
 generalize (dg a).getD i 0 = x at *
 generalize (dg b).getD i 0 = y at *
 have h2 : 18446744073709551616 ^ i * x + 18446744073709551616 ^ i ≤ 18446744073709551616 ^ i * y := by rw [← Nat.mul_succ]; exact Nat.mul_le_mul_left _ hlt
 generalize 18446744073709551616 ^ i * x = X at *
 generalize 18446744073709551616 ^ i * y = Y at *
 generalize 18446744073709551616 ^ i = Z at *
 generalize 18446744073709551616 ^ (i+1) * r = W at *
 omega
theorem eq_of_all {a b : Nat} (hl : (dg a).length = (dg b).length) (he : ∀ j, (dg a).getD j 0 = (dg b).getD j 0) : a = b := by
 have : dg a = dg b := by
  apply List.ext_getElem hl
  intro i h1 h2
  have := he i
  simpa [List.getD_eq_getElem?_getD, h1, h2] using this
 rw [← wval_dg a, ← wval_dg b, this]
/-! rounds of sums, differences, products, shifts -/
theorem plus_step {P lo0 la lb c a b : Nat} (h : lo0 + P * c = la + lb) : lo0 + P * ((a + c + b) % 18446744073709551616) + P * 18446744073709551616 * ((a + c + b) / 18446744073709551616) = la + P * a + (lb + P * b) := by
 have e : (a + c + b) % 18446744073709551616 + 18446744073709551616 * ((a + c + b) / 18446744073709551616) = a + c + b := Nat.mod_add_div _ _
 have e2 : P * ((a + c + b) % 18446744073709551616) + P * 18446744073709551616 * ((a + c + b) / 18446744073709551616) = P * a + P * c + P * b := by
  rw [Nat.mul_assoc, ← Nat.mul_add, e, Nat.mul_add, Nat.mul_add]
 omega
theorem minus_less {P lo0 la lb br a b : Nat} (h : lo0 + lb = la + P * br) (hb : br + b ≤ 18446744073709551616) : lo0 + P * (a + 18446744073709551616 - (br + b)) + (lb + P * b) = la + P * a + P * 18446744073709551616 * 1 := by
 have e : P * (a + 18446744073709551616 - (br + b)) + (P * br + P * b) = P * a + P * 18446744073709551616 := by
  rw [← Nat.mul_add, ← Nat.mul_add, ← Nat.mul_add]; congr 1; omega
 omega
theorem minus_more {P lo0 la lb br a b : Nat} (h : lo0 + lb = la + P * br) (hge : br + b ≤ a) : lo0 + P * (a - (br + b)) + (lb + P * b) = la + P * a + P * 18446744073709551616 * 0 := by
 have e : P * (a - (br + b)) + (P * br + P * b) = P * a := by
  rw [← Nat.mul_add, ← Nat.mul_add]; congr 1; omega
 omega
theorem minus_end {n o a b br : Nat} (h : o + b = a + 18446744073709551616 ^ n * br) (ho : o < 18446744073709551616 ^ n) (hb : b ≤ a) : br = 0 ∧ o = a - b := by
 generalize 18446744073709551616 ^ n = P at *
 rcases br with _ | br
 ·simp at h; omega
 ·exfalso
  have : P ≤ P * (br + 1) := Nat.le_mul_of_pos_right _ om
  omega
theorem word_mul {a b : Nat} (ha : a < 18446744073709551616) (hb : b < 18446744073709551616) : a * b ≤ 340282366920938463426481119284349108225 := Nat.le_trans (Nat.mul_le_mul (Nat.le_of_lt_succ (n := 18446744073709551615) om) (Nat.le_of_lt_succ (n := 18446744073709551615) om)) dc
theorem times_step {P Q lo1 lo0 c s x y z : Nat} (h : lo1 + P * c = lo0 + s) (t : Nat) (ht : t = x * y + z + c) (hs : Q = P * (x * y)) : lo1 + P * (t % 18446744073709551616) + P * 18446744073709551616 * (t / 18446744073709551616) = lo0 + P * z + (s + Q) := by
 have e : t % 18446744073709551616 + 18446744073709551616 * (t / 18446744073709551616) = t := Nat.mod_add_div _ _
 have e2 : P * (t % 18446744073709551616) + P * 18446744073709551616 * (t / 18446744073709551616) = P * t := by
  rw [Nat.mul_assoc, ← Nat.mul_add, e]
 have e3 : P * t = P * (x * y) + P * z + P * c := by rw [ht, Nat.mul_add, Nat.mul_add]
 omega
theorem left_low {m s : Nat} (hs : s < 64) : (m * 2 ^ s) % 18446744073709551616 = (m % 2 ^ (64 - s)) * 2 ^ s := by
 rw [show (18446744073709551616 : Nat) = 2 ^ (64 - s) * 2 ^ s by rw [← Nat.pow_add, show 64 - s + s = 64 by omega], Nat.mul_mod_mul_right]
theorem left_high {m s : Nat} (hm : m < 18446744073709551616) : (m * 2 ^ s) / 18446744073709551616 < 2 ^ s := by
 rw [Nat.div_lt_iff_lt_mul dc, Nat.mul_comm (2 ^ s)]; exact Nat.mul_lt_mul_of_pos_right hm (Nat.two_pow_pos s)
theorem left_step {P lo0 x t A : Nat} (h : lo0 + P * x = A) : lo0 + P * (x + t % 18446744073709551616) + P * 18446744073709551616 * (t / 18446744073709551616) = A + P * t := by
 have e : t % 18446744073709551616 + 18446744073709551616 * (t / 18446744073709551616) = t := Nat.mod_add_div _ _
 have e2 : P * (t % 18446744073709551616) + P * 18446744073709551616 * (t / 18446744073709551616) = P * t := by
  rw [Nat.mul_assoc, ← Nat.mul_add, e]
 rw [Nat.mul_add]; omega
theorem right_digit (D s i : Nat) (l : List Nat) (hl : D = wval l) (hw : Words l) (hs : s < 64) : (D / 2 ^ s) / 18446744073709551616 ^ i % 18446744073709551616 = (l.getD i 0 + 18446744073709551616 * l.getD (i + 1) 0) / 2 ^ s % 18446744073709551616 := by
 have e : D / 18446744073709551616 ^ i = l.getD i 0 + 18446744073709551616 * (l.getD (i + 1) 0 + 18446744073709551616 * wval (l.drop (i + 2))) := by
  have hd : wval (l.drop i) = l.getD i 0 + 18446744073709551616 * wval (l.drop (i + 1)) := by
   by_cases h : i < l.length
   ·rw [List.drop_eq_getElem_cons h]; simp [wval, List.getD_eq_getElem?_getD, h]
   ·rw [List.drop_eq_nil_of_le om, List.drop_eq_nil_of_le om]; simp [wval, List.getD_eq_getElem?_getD, h]
  have hd2 : wval (l.drop (i + 1)) = l.getD (i + 1) 0 + 18446744073709551616 * wval (l.drop (i + 2)) := by
   by_cases h : i + 1 < l.length
   ·rw [List.drop_eq_getElem_cons h]; simp [wval, List.getD_eq_getElem?_getD, h]
   ·rw [List.drop_eq_nil_of_le om, List.drop_eq_nil_of_le om]; simp [wval, List.getD_eq_getElem?_getD, h]
  rw [hl, wval_split l i, Nat.add_mul_div_left _ _ (Nat.pow_pos dc), Nat.div_eq_of_lt (lo_lt l hw i), hd, hd2]; omega
 rw [Nat.div_div_eq_div_mul, Nat.mul_comm (2 ^ s), ← Nat.div_div_eq_div_mul, e]
 generalize wval (l.drop (i + 2)) = r
 generalize l.getD i 0 = x
 generalize l.getD (i + 1) 0 = y
 have h2 : (18446744073709551616 : Nat) = 2 ^ s * 2 ^ (64 - s) := by rw [← Nat.pow_add, show s + (64 - s) = 64 by omega]
 rw [show x + 18446744073709551616 * (y + 18446744073709551616 * r) = (x + 18446744073709551616 * y) + 2 ^ s * (18446744073709551616 * (2 ^ (64 - s) * r)) by
  rw [Nat.mul_add 18446744073709551616 y, ← Nat.add_assoc]
  congr 1
  rw [Nat.mul_left_comm (2 ^ s), ← Nat.mul_assoc (2 ^ s), ← h2], Nat.add_mul_div_left _ _ (Nat.two_pow_pos s), Nat.add_mul_mod_self_left]
theorem mod_succ (X i : Nat) : X % 18446744073709551616 ^ (i + 1) = X % 18446744073709551616 ^ i + 18446744073709551616 ^ i * (X / 18446744073709551616 ^ i % 18446744073709551616) := by
 rw [Nat.pow_succ, Nat.mod_mul]
/-! how two stand -/
def cmpN (a b : Nat) : Int := if a < b then -1 else if b < a then 1 else 0
theorem cmpN_lt {a b : Nat} (h : a < b) : cmpN a b = -1 := if_pos h
theorem cmpN_gt {a b : Nat} (h : b < a) : cmpN a b = 1 := by unfold cmpN; rw [if_neg om, if_pos h]
theorem cmpN_eq (a : Nat) : cmpN a a = 0 := by unfold cmpN; rw [if_neg om, if_neg om]
end Go.Proofs.YtgkcpnidmfejeaaGreatDoor.P64
end
section
namespace Go.Proofs.YtgkcpnidmfejeaaGreatDoor.P64
open Go.RowKit
def RowAt (w : World) (A : Option Addr) (l : List Nat) : Prop :=
 0 < l.length → ∃ g m f, A = some ⟨g, 0, none⟩ ∧ l.length ≤ m ∧ w.rowIs g 25 m f ∧ ∀ i, i < l.length → f i = .int .u64 ((l.getD i 0 : Nat) : Int)
def OwnW (w : World) (g : Nat) (l : List Nat) : Prop := w.rowIs g 25 l.length (fun i => .int .u64 ((l.getD i 0 : Nat) : Int))
def IntTy (w : World) (g : Nat) : Prop := ∃ b s, w.heap[g]? = some (.cells #[.bool b, s] 229 (0, 0))
def IntB (w : World) (g : Nat) (v : Int) : Prop :=
 ∃ A c, w.heap[g]? = some (.cells #[.bool (decide (v < 0)), .slice A (dg v.natAbs).length c] 229 (0, 0)) ∧ (dg v.natAbs).length ≤ c ∧ RowAt w A (dg v.natAbs)
theorem rowIs_ne {w : World} {g h : Nat} {m : Nat} {f : Nat → Value} (k : w.rowIs g 25 m f) (hz : IntTy w h) : g ≠ h := by
 rintro rfl
 obtain ⟨c, hb, _⟩ := k
 obtain ⟨b, s, hz⟩ := hz
 rw [hb] at hz
 injection hz with hz
 injection hz with _ ht
 exact absurd ht dc
theorem RowAt.of_block {w w' : World} {A : Option Addr} {l : List Nat} (h : RowAt w A l) (hk : ∀ g m f, w.rowIs g 25 m f → w'.heap[g]? = w.heap[g]?) : RowAt w' A l := by
 intro hl
 obtain ⟨g, m, f, e, hm, hr, hf⟩ := h hl
 exact ⟨g, m, f, e, hm, hr.of_block (hk _ _ _ hr), hf⟩
theorem RowAt.of {w w' : World} {A : Option Addr} {l : List Nat} (h : RowAt w A l) (k : Within w w') : RowAt w' A l := h.of_block fun _ _ _ hr => k.block _ hr.lt
theorem RowAt.grown {w w' : World} {A : Option Addr} {l : List Nat} {z : Nat} (h : RowAt w A l) (hz : IntTy w z) (k : w.grownBy w' (some z)) : RowAt w' A l :=
 h.of_block fun _ _ _ hr => k.block _ hr.lt (fun e => rowIs_ne hr hz (by injection e))
theorem RowAt.setInt {w : World} {A : Option Addr} {l : List Nat} {z o : Nat} (h : RowAt w A l) (hz : IntTy w z) (u : Value) : RowAt (w.setCell ⟨z, o, none⟩ u) A l :=
 h.of_block fun _ _ _ hr => Below.heap_setCell w _ u _ (rowIs_ne hr hz)
theorem RowAt.take {w : World} {A : Option Addr} {l : List Nat} (h : RowAt w A l) (k : Nat) : RowAt w A (l.take k) := by
 intro hl
 have hl' : 0 < l.length := Nat.lt_of_lt_of_le hl (List.length_take_le' _ _)
 obtain ⟨g, m, f, e, hm, hr, hf⟩ := h hl'
 refine ⟨g, m, f, e, Nat.le_trans (List.length_take_le' _ _) hm, hr, fun i hi => ?_⟩
 have hi' : i < l.length := Nat.lt_of_lt_of_le hi (List.length_take_le' _ _)
 rw [hf i hi']
 have : i < k := Nat.lt_of_lt_of_le hi (List.length_take_le _ _)
 simp [List.getD_eq_getElem?_getD, List.getElem?_take, this]
theorem RowAt.drew {w : World} {A : Option Addr} {l : List Nat} (h : RowAt w A l) : RowAt w.drew A l := h
theorem RowAt.nil {w : World} {A : Option Addr} : RowAt w A [] := fun h => absurd h (by simp)
theorem OwnW.at {w : World} {g : Nat} {l : List Nat} (h : OwnW w g l) : RowAt w (some ⟨g, 0, none⟩) l := fun _ => ⟨g, _, _, rfl, Nat.le_refl _, h, fun _ _ => rfl⟩
theorem OwnW.made (w : World) (n : Nat) : OwnW (w.alloc (.cells (madeCells #[.int .u64 0] n) 25)) w.heap.size (List.replicate n 0) := by
 have h := World.rowIs_made w (.int .u64 0) n 25
 unfold OwnW
 rw [List.length_replicate]
 refine h.congr fun i hi => ?_
 simp [List.getD_eq_getElem?_getD, hi]
theorem OwnW.set {w : World} {g : Nat} {l : List Nat} (h : OwnW w g l) (i x : Nat) (hi : i < l.length) : OwnW (w.setCell ⟨g, i, none⟩ (.int .u64 (x : Int))) g (l.set i x) := by
 have k := World.rowIs.set h i (.int .u64 (x : Int))
 unfold OwnW
 rw [List.length_set]
 refine k.congr fun j hj => ?_
 show (if j = i then _ else _) = _
 by_cases e : j = i
 ·subst e; rw [if_pos rfl, getD_set_eq _ _ _ hi]
 ·rw [if_neg e, lset_ne _ _ _ _ (fun h => e h.symm)]
theorem OwnW.cell {w : World} {g : Nat} {l : List Nat} (h : OwnW w g l) {i : Nat} (hi : i < l.length) : w.cell? ⟨g, i, none⟩ = some (.int .u64 ((l.getD i 0 : Nat) : Int)) := World.rowIs.cell h hi
theorem OwnW.frozen {w : World} {g : Nat} {l : List Nat} (h : OwnW w g l) (i : Nat) : w.frozen? ⟨g, i, none⟩ = false := World.rowIs.frozen h i
theorem OwnW.of_block {w w' : World} {g : Nat} {l : List Nat} (h : OwnW w g l) (e : w'.heap[g]? = w.heap[g]?) : OwnW w' g l := World.rowIs.of_block h e
theorem OwnW.alloc {w : World} {g : Nat} {l : List Nat} (h : OwnW w g l) (o : Obj) : OwnW (w.alloc o) g l := World.rowIs.alloc h o
theorem OwnW.drew {w : World} {g : Nat} {l : List Nat} (h : OwnW w g l) : OwnW w.drew g l := h
theorem OwnW.lt {w : World} {g : Nat} {l : List Nat} (h : OwnW w g l) : g < w.heap.size := World.rowIs.lt h
theorem RowAt.cell {w : World} {A : Option Addr} {l : List Nat} (h : RowAt w A l) {i : Nat} (hi : i < l.length) : ∃ g, A = some ⟨g, 0, none⟩ ∧ g < w.heap.size ∧ w.cell? ⟨g, i, none⟩ = some (.int .u64 ((l.getD i 0 : Nat) : Int)) := by
 obtain ⟨g, m, f, e, hm, hr, hf⟩ := h om
 exact ⟨g, e, hr.lt, by rw [hr.cell om, hf i hi]⟩
theorem IntB.ty {w : World} {g : Nat} {v : Int} (h : IntB w g v) : IntTy w g := by
 obtain ⟨A, c, hb, _⟩ := h
 exact ⟨_, _, hb⟩
theorem IntB.lt {w : World} {g : Nat} {v : Int} (h : IntB w g v) : g < w.heap.size := by
 obtain ⟨A, c, hb, _⟩ := h
 obtain ⟨hlt, _⟩ := Array.getElem?_eq_some_iff.1 hb
 exact hlt
theorem IntTy.lt {w : World} {g : Nat} (h : IntTy w g) : g < w.heap.size := by
 obtain ⟨A, c, hb⟩ := h
 obtain ⟨hlt, _⟩ := Array.getElem?_eq_some_iff.1 hb
 exact hlt
theorem IntTy.of {w w' : World} {g : Nat} (h : IntTy w g) (k : Within w w') : IntTy w' g := by
 have := h.lt
 obtain ⟨b, s, hb⟩ := h
 exact ⟨b, s, (k.block _ this).trans hb⟩
theorem IntB.of {w w' : World} {g : Nat} {v : Int} (h : IntB w g v) (k : Within w w') : IntB w' g v := by
 have hl := h.lt
 obtain ⟨A, c, hb, hc, hr⟩ := h
 exact ⟨A, c, (k.block _ hl).trans hb, hc, hr.of k⟩
theorem IntB.grown {w w' : World} {g z : Nat} {v : Int} (h : IntB w g v) (hz : IntTy w z) (hne : g ≠ z) (k : w.grownBy w' (some z)) : IntB w' g v := by
 have hl := h.lt
 obtain ⟨A, c, hb, hc, hr⟩ := h
 exact ⟨A, c, (k.block _ hl (fun e => hne (by injection e))).trans hb, hc, hr.grown hz k⟩
theorem IntB.cells {w : World} {g : Nat} {v : Int} (h : IntB w g v) : ∃ A c, w.cell? ⟨g, 0, none⟩ = some (.bool (decide (v < 0))) ∧ w.cell? ⟨g, 1, none⟩ = some (.slice A (dg v.natAbs).length c) ∧ (dg v.natAbs).length ≤ c ∧ RowAt w A (dg v.natAbs) := by
 obtain ⟨A, c, hb, hc, hr⟩ := h
 exact ⟨A, c, by simp [World.cell?, hb], by simp [World.cell?, hb], hc, hr⟩
theorem IntTy.frozen {w : World} {g : Nat} (h : IntTy w g) (i : Nat) : w.frozen? ⟨g, i, none⟩ = false := by
 obtain ⟨b, s, hb⟩ := h
 simp [World.frozen?, hb]
theorem IntTy.cells {w : World} {g : Nat} (h : IntTy w g) : ∃ b s, w.cell? ⟨g, 0, none⟩ = some (.bool b) ∧ w.cell? ⟨g, 1, none⟩ = some s := by
 obtain ⟨b, s, hb⟩ := h
 exact ⟨b, s, by simp [World.cell?, hb], by simp [World.cell?, hb]⟩
theorem IntB.made (w : World) : IntB (w.alloc (.cells #[.bool false, .slice none 0 0] 229)) w.heap.size 0 :=
 ⟨none, 0, by rw [show (dg (0 : Int).natAbs) = [] from dg_zero]; exact heap_alloc_new w _, by rw [show (dg (0 : Int).natAbs) = [] from dg_zero]; exact Nat.le_refl _, by rw [show (dg (0 : Int).natAbs) = [] from dg_zero]; exact RowAt.nil⟩
theorem Within.grown {W w w' : World} {z : Nat} (h : Within W w) (k : w.grownBy w' (some z)) (hz : W.heap.size ≤ z) : Within W w' :=
 Below.grown h k h.size (fun _ e => by injection e with e; omega)
theorem grown_trans {a b c : World} {z : Nat} (h : a.grownBy b (some z)) (k : b.grownBy c (some z)) : a.grownBy c (some z) :=
 ⟨k.os.trans h.os, k.tape.trans h.tape, k.output.trans h.output, Nat.le_trans h.size k.size, fun i hi hne => (k.block i (Nat.lt_of_lt_of_le hi h.size) hne).trans (h.block i hi hne)⟩
theorem grown_within {a b : World} (z : Nat) (h : Within a b) : a.grownBy b (some z) := ⟨h.os, h.tape, h.output, h.size, fun i hi _ => h.block i hi⟩
theorem grown_set {a w : World} {z o : Nat} (h : a.grownBy w (some z)) (u : Value) : a.grownBy (w.setCell ⟨z, o, none⟩ u) (some z) :=
 ⟨h.os, h.tape, h.output, by simpa [World.setCell] using h.size, fun i hi hne => (Below.heap_setCell w _ u i (fun e => hne (by subst e; rfl))).trans (h.block i hi hne)⟩
def RetW (W : World) (n : Nat) (e : Ending) (w' : World) : Prop := ∃ A c, e = .returned (.slice A (dg n).length c) ∧ (dg n).length ≤ c ∧ RowAt w' A (dg n) ∧ Within W w'
def PutI (W : World) (z : Nat) (v : Int) (e : Ending) (w' : World) : Prop := e = .returned (.pointer (some ⟨z, 0, none⟩)) ∧ IntB w' z v ∧ W.grownBy w' (some z)
def Small (n : Nat) : Prop := (dg n).length ≤ 1000000
theorem Small.le {a b : Nat} (h : Small b) (k : a ≤ b) : Small a := Nat.le_trans (dg_len_mono k) h
end Go.Proofs.YtgkcpnidmfejeaaGreatDoor.P64
end
section
namespace Go.Proofs.YtgkcpnidmfejeaaGreatDoor.P64
open Go.RowKit
theorem lastWord (l : List Nat) : ∃ j, j ≤ l.length ∧ (∀ i, j ≤ i → l.getD i 0 = 0) ∧ (0 < j → l.getD (j - 1) 0 ≠ 0) := by
 have : ∀ n, n ≤ l.length → (∀ i, n ≤ i → l.getD i 0 = 0) → ∃ j, j ≤ l.length ∧ (∀ i, j ≤ i → l.getD i 0 = 0) ∧ (0 < j → l.getD (j - 1) 0 ≠ 0) := by
  intro n
  induction n with
  | zero => intro h1 h2; exact ⟨0, h1, h2, fun h => absurd h om⟩
  | succ n ih =>
   intro h1 h2
   by_cases h : l.getD n 0 = 0
   ·exact ih om (fun i hi => by
     rcases Nat.eq_or_lt_of_le hi with e | e
     ·subst e; exact h
     ·exact h2 i e)
   ·exact ⟨n + 1, h1, h2, fun _ => by rw [Nat.add_sub_cancel]; exact h⟩
 exact this l.length (Nat.le_refl _) (fun i hi => by simp [List.getD_eq_getElem?_getD, hi])
def NormRel (l : List Nat) (m : Value) : Prop := ∃ j : Nat, j ≤ l.length ∧ m = .int .i64 (j : Int) ∧ ∀ i, j ≤ i → l.getD i 0 = 0
theorem Pnorm (l : List Nat) (A : Option Addr) (c : Nat) (hw : Words l) (hc : l.length ≤ c) (hl : l.length ≤ 2000000) (w : World) (hr : RowAt w A l) :
 Calls Tryz.prog 326 #[.slice A l.length c] w fun e w' => e = .returned (.slice A (dg (wval l)).length c) ∧ w = w' := by
 have HW := Hh hw; have HR := Hh hr; clear hw hr
 go_enter Tryz.func326, Tryz.ntmps326
 go_wp2
 go_loop [3] (fun m => NormRel l m) (fun m => (intOf m).toNat)
 case atStart => exact ⟨l.length, Nat.le_refl _, rfl, fun i hi => by simp [List.getD_eq_getElem?_getD, hi]⟩
 case round =>
  obtain ⟨j, hj, rfl, hz⟩ := hrel
  have HZ := Hh hz; clear hz
  rcases Nat.eq_zero_or_pos j with h0 | h0
  ·subst h0
   go_wp2
   go_ret
   refine ⟨?_, rfl⟩
   have := dg_cut l HW.out 0 (Nat.zero_le _) HZ.out (fun h => absurd h om)
   rw [← this]; simp
  ·obtain ⟨g, rfl, _, hcell⟩ := (HR.out.cell (i := j - 1) om)
   obtain ⟨i, rfl⟩ : ∃ i, j = i + 1 := ⟨j - 1, by omega⟩
   rw [Nat.add_sub_cancel] at hcell
   have g1 : IntKind.i64.wrap ((↑(i + 1) : Int) - 1) = (i : Int) := by rw [IntWalk.i64_in _ om]; omega
   obtain ⟨x, hxe⟩ : ∃ x, x = l.getD i 0 := ⟨_, rfl⟩
   rw [← hxe] at hcell
   have HXE := Hh hxe; clear hxe
   rcases x with _ | x
   ·go_wp2
    go_round
    case rel => exact ⟨i, by omega, rfl, fun k hk => by
     rcases Nat.eq_or_lt_of_le hk with h | h
     ·subst h; exact HXE.out.symm
     ·exact HZ.out k h⟩
    case measure => simp [intOf]
   ·have hx' : (((x + 1 : Nat) : Int) == 0) = false := beq_eq_false_iff_ne.2 om
    have hx2 : ((x : Int) + 1 == 0) = false := beq_eq_false_iff_ne.2 om
    go_wp2
    go_ret
    refine ⟨?_, rfl⟩
    have := dg_cut l HW.out (i + 1) hj HZ.out (fun _ => by rw [Nat.add_sub_cancel, ← HXE.out]; omega)
    rw [← this]; simp; omega
theorem infoU64 : (Tryz.prog.info? 25).map (fun i => (i.zero, i.size, i.bytes)) = some (some (.int .u64 0), 1, 8) := by kernel_rfl
theorem RowAt.cut {w : World} {A : Option Addr} {l : List Nat} (hr : RowAt w A l) (hw : Words l) : RowAt w A (dg (wval l)) := by
 intro hpos
 obtain ⟨j, hj, h1, h2⟩ := lastWord l
 have hjj := dg_cut l hw j hj h1 h2
 rw [← hjj] at hpos ⊢
 exact hr.take j hpos
theorem retW_cut {W w : World} {A : Option Addr} {l : List Nat} {c n : Nat} (hr : RowAt w A l) (hw : Words l) (hc : l.length ≤ c) (hW : Within W w) (hn : wval l = n) : RetW W n (.returned (.slice A (dg (wval l)).length c)) w := by
 subst hn
 exact ⟨A, c, rfl, Nat.le_trans (dg_len_le (wval_lt l hw)) hc, hr.cut hw, hW⟩
theorem put_heap {w : World} {z : Nat} (h : IntTy w z) (b : Bool) (s : Value) : ((w.setCell ⟨z, 0, none⟩ (.bool b)).setCell ⟨z, 1, none⟩ s).heap[z]? = some (.cells #[.bool b, s] 229 (0, 0)) := by
 obtain ⟨b', s', hb⟩ := h
 simp [World.setCell, Array.getElem?_modify, hb]
theorem put_is {w : World} {z : Nat} (h : IntTy w z) (A : Option Addr) (c : Nat) (v : Int) (hc : (dg v.natAbs).length ≤ c) (hr : RowAt w A (dg v.natAbs)) :
 PutI w z v (.returned (.pointer (some ⟨z, 0, none⟩))) ((w.setCell ⟨z, 0, none⟩ (.bool (decide (v < 0)))).setCell ⟨z, 1, none⟩ (.slice A (dg v.natAbs).length c)) := by
 have g1 : w.grownBy (w.setCell ⟨z, 0, none⟩ (.bool (decide (v < 0)))) (some z) := grown_set (World.grownBy.refl _ _) _
 refine ⟨rfl, ⟨A, c, put_heap h _ _, hc, ?_⟩, grown_set g1 _⟩
 have := hr.grown h g1
 refine RowAt.setInt this ?_ _
 obtain ⟨b', s', hb⟩ := h
 exact ⟨decide (v < 0), s', by simp [World.setCell, Array.getElem?_modify, hb]⟩
def sgv (neg : Bool) (n : Nat) : Int := if neg then -(n : Int) else n
theorem sgv_abs (neg : Bool) (n : Nat) : (sgv neg n).natAbs = n := by unfold sgv; split <;> omega
theorem sgv_neg (neg : Bool) (n : Nat) : decide (sgv neg n < 0) = (neg && decide (0 < n)) := by
 unfold sgv; cases neg
 ·simp
 ·simp
theorem Pmade0 (z : Nat) (neg : Bool) (A : Option Addr) (c : Nat) (b0 : Bool) (s0 : Value) (n : Nat) (B : Bool) (w : World)
 (c0 : w.cell? ⟨z, 0, none⟩ = some (.bool b0)) (c1 : w.cell? ⟨z, 1, none⟩ = some s0) (f0 : w.frozen? ⟨z, 0, none⟩ = false) (f1 : w.frozen? ⟨z, 1, none⟩ = false)
 (hB : (neg && decide (0 < n)) = B) :
 Calls Tryz.prog 263 #[.pointer (some ⟨z, 0, none⟩), .bool neg, .slice A n c] w fun e w' => e = .returned (.pointer (some ⟨z, 0, none⟩)) ∧ (w.setCell ⟨z, 0, none⟩ (.bool B)).setCell ⟨z, 1, none⟩ (.slice A n c) = w' := by
 have hn : neg = true → ∀ k : Nat, (decide ((k : Int) > 0)) = decide (0 < k) := fun _ k => by simp
 cases neg
 ·simp only [Bool.false_and] at hB
  subst hB
  go_enter Tryz.func263, Tryz.ntmps263
  go_wp2
  go_ret
  exact ⟨rfl, rfl⟩
 ·simp only [Bool.true_and] at hB
  subst hB
  go_enter Tryz.func263, Tryz.ntmps263
  go_wp2
  go_ret
  exact ⟨rfl, rfl⟩
theorem Pmade (z : Nat) (neg : Bool) (n : Nat) (A : Option Addr) (c : Nat) (hc : (dg n).length ≤ c) (w : World) (hr : RowAt w A (dg n)) (hz : IntTy w z) :
 Calls Tryz.prog 263 #[.pointer (some ⟨z, 0, none⟩), .bool neg, .slice A (dg n).length c] w (PutI w z (sgv neg n)) := by
 obtain ⟨b0, s0, c0, c1⟩ := hz.cells
 refine (Pmade0 z neg A c b0 s0 (dg n).length (decide (sgv neg n < 0)) w c0 c1 (hz.frozen 0) (hz.frozen 1) ?_).mono ?_
 ·rw [sgv_neg]
  congr 1
  rw [decide_eq_decide]
  constructor
  ·intro h
   rcases Nat.eq_zero_or_pos n with h0 | h0
   ·rw [h0, dg_zero] at h; simp at h
   ·exact h0
  ·intro h; exact dg_len_pos om
 ·rintro e w' ⟨rfl, rfl⟩
  have := put_is hz A c (sgv neg n) (by rw [sgv_abs]; exact hc) (by rw [sgv_abs]; exact hr)
  rw [sgv_abs] at this
  exact this
theorem one_at (w : World) (x : Nat) (C : Array Value) (hC : C = #[.int .u64 (x : Int)]) : RowAt (w.alloc (.cells C 25)) (some ⟨w.heap.size, 0, none⟩) [x] := by
 subst hC
 intro _
 have h := World.rowIs_alloc w #[.int .u64 (x : Int)] 25 (fun i => .int .u64 (([x].getD i 0 : Nat) : Int)) (by
  intro i hi
  have : i = 0 := by simp at hi; omega
  subst this; rfl)
 exact ⟨_, _, _, rfl, Nat.le_refl _, h, fun i _ => rfl⟩
theorem Pword (n : Nat) (hn : n < 18446744073709551616) (w : World) : Calls Tryz.prog 305 #[.int .u64 (n : Int)] w (RetW w n) := by
 have HN := Hh hn; clear hn
 have CT := Hh (fun (w' : World) (hr : RowAt w' (some ⟨w.heap.size, 0, none⟩) [n]) => Pnorm [n] (some ⟨w.heap.size, 0, none⟩) 1 (by intro x hx; have := HN.out; simp at hx; omega) (by simp) (by simp) w' hr)
 go_enter Tryz.func305, Tryz.ntmps305
 go_wp2_with fail
 refine (CT.out _ (one_at w _ _ (by simp))).mono ?_; rintro e1 w1 ⟨rfl, rfl⟩
 go_wp2
 go_ret
 exact retW_cut (one_at w _ _ (by simp)) (by intro x hx; have := HN.out; simp at hx; omega) (by simp) ((Within.refl w).alloc _) (by simp [wval])
theorem Pdigit (l : List Nat) (A : Option Addr) (c k : Nat) (x : Nat) (hx : x = l.getD k 0) (hl : l.length ≤ 2000000) (hk : k ≤ 4000000) (w : World) (hr : RowAt w A l) :
 Calls Tryz.prog 328 #[.slice A l.length c, .int .i64 (k : Int)] w fun e w' => e = .returned (.int .u64 (x : Int)) ∧ w = w' := by
 rcases Nat.lt_or_ge k l.length with h | h
 ·obtain ⟨g, rfl, _, hcell⟩ := hr.cell h
  rw [← hx] at hcell
  clear hx hr
  go_enter Tryz.func328, Tryz.ntmps328
  go_wp2
  go_ret
  exact ⟨rfl, rfl⟩
 ·have h0 : x = 0 := by rw [hx]; simp [List.getD_eq_getElem?_getD, h]
  subst h0
  clear hx hr
  go_enter Tryz.func328, Tryz.ntmps328
  go_wp2
  go_ret
  exact ⟨rfl, rfl⟩
end Go.Proofs.YtgkcpnidmfejeaaGreatDoor.P64
end
section
namespace Go.Proofs.YtgkcpnidmfejeaaGreatDoor.P64
open Go.RowKit
def sub64Row : Array Value → Sem Value := fun args => do
 let (x, y, b) ← Extern.MathBitsCarry.three "Sub64" args
 pure (Extern.MathBitsCarry.pair ((x + Extern.MathBitsCarry.m64 - y - b) % Extern.MathBitsCarry.m64) (if x < y + b then 1 else 0))
theorem run_sub64Row (x y b : Nat) (hb : b ≤ 1) (w : World) :
 (sub64Row #[.int .u64 x, .int .u64 y, .int .u64 b]).run Tryz.prog w =
  .ok (.tuple #[.int .u64 (((x + 18446744073709551616 - y - b) % 18446744073709551616 : Nat) : Int), .int .u64 ((if x < y + b then 1 else 0 : Nat) : Int)]) w := by
 have : b = 0 ∨ b = 1 := by omega
 rcases this with rfl | rfl <;> rfl
theorem add64 (x y c : Int) (hx : 0 ≤ x) (hy : 0 ≤ y) (hc0 : 0 ≤ c) (hc : c ≤ 1) (w : World) : (callFunc 354 #[.int .u64 x, .int .u64 y, .int .u64 c]).run Tryz.prog w =
 .ok (.value (.tuple #[.int .u64 ((x + y + c) % 18446744073709551616), .int .u64 ((x + y + c) / 18446744073709551616)])) w := by
 rw [run_callFunc_extern Tryz.func354 kr kr kr (e := add64Entry) kr, run_add64 x y c hx hy hc0 hc]
 rfl
theorem add64_0 (x y : Int) (hx : 0 ≤ x) (hy : 0 ≤ y) (w : World) : (callFunc 354 #[.int .u64 x, .int .u64 y, .int .u64 0]).run Tryz.prog w =
 .ok (.value (.tuple #[.int .u64 ((x + y) % 18446744073709551616), .int .u64 ((x + y) / 18446744073709551616)])) w := by
 simpa using add64 x y 0 hx hy (Int.le_refl 0) dc w
def bor (x y b : Nat) : Nat := if x < y + b then 1 else 0
theorem sub64 (x y b : Nat) (hb : b ≤ 1) (w : World) : (callFunc 371 #[.int .u64 (x : Int), .int .u64 (y : Int), .int .u64 (b : Int)]).run Tryz.prog w =
 .ok (.value (.tuple #[.int .u64 (((x + 18446744073709551616 - y - b) % 18446744073709551616 : Nat) : Int), .int .u64 (bor x y b : Int)])) w := by
 rw [run_callFunc_extern Tryz.func371 kr kr kr (e := sub64Row) kr, run_sub64Row x y b hb]
 rfl
theorem mul64 (x y : Nat) (hx : x < 18446744073709551616) (hy : y < 18446744073709551616) (w : World) :
 Calls Tryz.prog 369 #[.int .u64 (x : Int), .int .u64 (y : Int)] w fun e w' => e = .returned (.tuple #[.int .u64 ((x * y / 18446744073709551616 : Nat) : Int), .int .u64 ((x * y % 18446744073709551616 : Nat) : Int)]) ∧ w = w' := by
 obtain ⟨bd, bt, bw, hhi⟩ := Lib.mul64_hi x y hx hy
 have ba := Lib.half_mul_le (a := x / 4294967296) (b := y / 4294967296) om om
 have bb := Lib.half_mul_le (a := x / 4294967296) (b := y % 4294967296) om om
 have bc := Lib.half_mul_le (a := x % 4294967296) (b := y / 4294967296) om om
 have ba' : x / 4294967296 * (y / 4294967296) < 18446744073709551616 := by omega
 have bb' : x / 4294967296 * (y % 4294967296) < 18446744073709551616 := by omega
 have bc' : x % 4294967296 * (y / 4294967296) < 18446744073709551616 := by omega
 have bh1 : x / 4294967296 * (y / 4294967296) + (x / 4294967296 * (y % 4294967296) + x % 4294967296 * (y % 4294967296) / 4294967296) / 4294967296 < 18446744073709551616 := by omega
 have bh : x / 4294967296 * (y / 4294967296) + (x / 4294967296 * (y % 4294967296) + x % 4294967296 * (y % 4294967296) / 4294967296) / 4294967296 + ((x / 4294967296 * (y % 4294967296) + x % 4294967296 * (y % 4294967296) / 4294967296) % 4294967296 + x % 4294967296 * (y / 4294967296)) / 4294967296 < 18446744073709551616 := by omega
 go_enter Tryz.func369, Tryz.ntmps369
 go_wp2
 simp only [Mul64.maskN x hx, Mul64.maskN y hy, Mul64.divN, Mul64.mulN, Mul64.addN, Mul64.wrapN _ bd, Mul64.wrapN _ bb', Mul64.wrapN _ bt, Mul64.maskN _ bt, Mul64.wrapN _ bc', Mul64.wrapN _ bw, Mul64.wrapN _ ba', Mul64.wrapN _ bh1, Mul64.wrapN _ bh, Mul64.wrapM (x * y)]
 rw [hhi]
 go_ret2
 exact ⟨rfl, rfl⟩
theorem Pfold0 (a b c d h l s : Nat) (ha : a < 18446744073709551616) (hb : b < 18446744073709551616) (hh : h = a * b / 18446744073709551616) (hl : l = a * b % 18446744073709551616) (w : World)
 (u v : Int) (hc : c < 18446744073709551616) (hd : d < 18446744073709551616)
 (hu : IntKind.u64.wrap (IntKind.u64.wrap ((h : Int) + ((l : Int) + c) / 18446744073709551616) + (((l : Int) + c) % 18446744073709551616 + d) / 18446744073709551616) = u)
 (hv : (((l : Int) + c) % 18446744073709551616 + d) % 18446744073709551616 = v) :
 Calls Tryz.prog 346 #[.int .u64 (a : Int), .int .u64 (b : Int), .int .u64 (c : Int), .int .u64 (d : Int)] w fun e w' => e = .returned (.tuple #[.int .u64 u, .int .u64 v]) ∧ w = w' := by
 have CM := Hh (mul64 a b ha hb w)
 rw [← hh, ← hl] at CM
 have A1 := fun w => add64_0 (l : Int) (c : Int) om om w
 have A2 := fun w => add64_0 (((l : Int) + c) % 18446744073709551616) (d : Int) om om w
 clear hh hl ha hb
 go_enter Tryz.func346, Tryz.ntmps346
 go_wp2_with fail
 refine CM.out.mono ?_; rintro e1 w1 ⟨rfl, rfl⟩
 go_wp2_with (first | simp only [A1] | simp only [A2])
 go_ret2
 exact ⟨rfl, rfl⟩
theorem Pfold (a b c d p : Nat) (ha : a < 18446744073709551616) (hb : b < 18446744073709551616) (hc : c < 18446744073709551616) (hd : d < 18446744073709551616) (hp : p = a * b + c + d) (w : World) :
 Calls Tryz.prog 346 #[.int .u64 (a : Int), .int .u64 (b : Int), .int .u64 (c : Int), .int .u64 (d : Int)] w fun e w' => e = .returned (.tuple #[.int .u64 ((p / 18446744073709551616 : Nat) : Int), .int .u64 ((p % 18446744073709551616 : Nat) : Int)]) ∧ w = w' := by
 have hm := word_mul ha hb
 obtain ⟨q, hq⟩ : ∃ q, q = a * b := ⟨_, rfl⟩
 refine Pfold0 a b c d (q / 18446744073709551616) (q % 18446744073709551616) 0 ha hb (by rw [hq]) (by rw [hq]) w _ _ hc hd ?_ ?_
 ·rw [← hq] at hm hp
  rw [IntKind.wrap_u64, IntKind.wrap_u64]
  omega
 ·rw [← hq] at hm hp
  omega
end Go.Proofs.YtgkcpnidmfejeaaGreatDoor.P64
end
section
namespace Go.Proofs.YtgkcpnidmfejeaaGreatDoor.P64
open Go.RowKit
def SumRel (W : World) (g n : Nat) (la lb : List Nat) (cv iv : Value) (wr : World) : Prop :=
 ∃ (k c : Nat) (o : List Nat), k ≤ n ∧ c ≤ 1 ∧ cv = .int .u64 (c : Int) ∧ iv = .int .i64 (k : Int) ∧ o.length = n + 1 ∧ Words o ∧ OwnW wr g o ∧ lo o k + 18446744073709551616 ^ k * c = lo la k + lo lb k ∧ Within W wr
theorem SumRel.step {W wr : World} {g n : Nat} {la lb o : List Nat} {k c x y : Nat} (u v q : Int) (hk : k < n) (hc : c ≤ 1) (ho : o.length = n + 1) (hwo : Words o) (hown : OwnW wr g o) (hval : lo o k + 18446744073709551616 ^ k * c = lo la k + lo lb k) (hin : Within W wr)
 (hx : x = la.getD k 0) (hy : y = lb.getD k 0) (hx2 : x < 18446744073709551616) (hy2 : y < 18446744073709551616) (hg : W.heap.size ≤ g) (hu : u = (((x + c + y) / 18446744073709551616 : Nat) : Int)) (hv : v = (((x + c + y) % 18446744073709551616 : Nat) : Int)) (hq : q = ((k + 1 : Nat) : Int)) :
 SumRel W g n la lb (.int .u64 u) (.int .i64 q) (wr.setCell ⟨g, k, none⟩ (.int .u64 v)) := by
 subst hu hv hq
 refine ⟨k + 1, (x + c + y) / 18446744073709551616, o.set k ((x + c + y) % 18446744073709551616), by omega, by omega, rfl, rfl, by rw [List.length_set]; exact ho, hwo.set _ _ om, hown.set _ _ om, ?_, hin.setCell hg _⟩
 rw [lo_set_succ _ _ _ om, lo_succ la, lo_succ lb, ← hx, ← hy, Nat.pow_succ]
 have := plus_step (P := 18446744073709551616 ^ k) (a := x) (b := y) hval
 omega
theorem zz28 {p : Prop} (h : p := by
 obtain ⟨x, hxe⟩ : ∃ x, x = la.getD k 0 := ⟨_, rfl⟩
 have hx : x < 18446744073709551616 := by rw [hxe]; exact HWA.out.getD k
 obtain ⟨y, hye⟩ : ∃ y, y = lb.getD k 0 := ⟨_, rfl⟩
 have hy : y < 18446744073709551616 := by rw [hye]; exact HWB.out.getD k
 have HX := Hh hxe; have HY := Hh hye; clear hxe hye
 have hco := hown.cell (i := k) (by rw [HO.out]; omega)
 have hfo := hown.frozen k
 have C1 := Hh (Pdigit la A ca k x HX.out (by have := HLA.out; omega) om wr (HRA.out.of hin))
 have C2 := Hh (Pdigit lb Bv cb k y HY.out (by have := HLB.out; omega) om wr (HRB.out.of hin))
 have A1 := fun w => add64 (x : Int) (y : Int) (c : Int) om om om om w
 go_wp2_with fail
 refine C1.out.mono ?_; rintro e1 w1 ⟨rfl, rfl⟩
 go_wp2_with fail
 refine C2.out.mono ?_; rintro e1 w1 ⟨rfl, rfl⟩
 go_wp2_with (simp only [A1])
 go_roundw
 case rel => exact SumRel.step (x := x) (y := y) _ _ _ hlt hc HO.out HWO.out hown HV.out hin HX.out HY.out hx hy (Nat.le_refl _) om om om
 case measure => simp [intOf]; omega) : p := h
theorem Psum_lt (la lb : List Nat) (n : Nat) (A Bv : Option Addr) (ca cb : Nat) (hwa : Words la) (hwb : Words lb) (hla : la.length ≤ n) (hlb : lb.length ≤ n) (hn : n ≤ 1500000) (hmx : la.length < lb.length) (hnn : n = lb.length) (w : World) (hra : RowAt w A la) (hrb : RowAt w Bv lb) :
 Calls Tryz.prog 325 #[.slice A la.length ca, .slice Bv lb.length cb] w (RetW w (wval la + wval lb)) := by
 have hmk := run_make_row' (P := Tryz.prog) 227 25 (.int .u64 0) 8 kr infoU64 rfl .i64 .i64 (n + 1) om om
 rw [show ((n + 1 : Nat) : Int) = (n : Int) + 1 by omega] at hmk
 have HWA := Hh hwa; have HWB := Hh hwb; have HRA := Hh hra; have HRB := Hh hrb; clear hwa hwb hra hrb
 have HLA := Hh hla; have HLB := Hh hlb; clear hla hlb
 have HM := OwnW.made w (n + 1)
 subst hnn
 have hmxI : max (la.length : Int) (lb.length : Int) = (lb.length : Int) := by omega
 go_enter Tryz.func325, Tryz.ntmps325
 go_wp2
 go_loopw [7, 18] (fun cv iv wr => SumRel w w.heap.size lb.length la lb cv iv wr) (fun _ iv _ => lb.length - (intOf iv).toNat)
 case atStart => exact ⟨0, 0, _, Nat.zero_le _, Nat.zero_le _, rfl, rfl, by simp, Words.zeros _, HM, by simp [lo_zero], (Within.refl w).alloc _⟩
 case round =>
  obtain ⟨k, c, o, hk, hc, rfl, rfl, ho, hwo, hown, hval, hin⟩ := hrel
  have HV := Hh hval; have HO := Hh ho; have HWO := Hh hwo; clear hval ho hwo
  rcases Nat.lt_or_ge k lb.length with hlt | hlt
  ·exact zz28
  ·obtain rfl : k = lb.length := by omega
   have hco := hown.cell (i := lb.length) (by rw [HO.out]; omega)
   have hfo := hown.frozen lb.length
   have hsz := HO.out
   have hown2 := hown.set lb.length c om
   have HL : Hid ((o.set lb.length c).length = lb.length + 1) := by rw [List.length_set]; exact hsz
   have CT := Hh (Pnorm (o.set lb.length c) (some ⟨w.heap.size, 0, none⟩) (lb.length + 1) (HWO.out.set _ _ om) (by rw [HL.out]; exact Nat.le_refl _) (by rw [HL.out]; omega) _ hown2.at)
   rw [HL.out] at CT
   clear hsz hown2
   go_wp2_with fail
   refine (CT.out).mono ?_; rintro e1 w1 ⟨rfl, rfl⟩
   go_wp2
   go_ret
   refine retW_cut (hown.set lb.length c (by rw [HO.out]; omega)).at (HWO.out.set _ _ om) (by rw [HL.out]; exact Nat.le_refl _) (hin.setCell (Nat.le_refl _) _) ?_
   rw [← lo_all (o.set lb.length c) (Nat.le_of_eq HL.out), lo_set_succ _ _ _ (by rw [HO.out]; omega), HV.out, lo_all _ HLA.out, lo_all _ HLB.out]
theorem Psum_ge (la lb : List Nat) (n : Nat) (A Bv : Option Addr) (ca cb : Nat) (hwa : Words la) (hwb : Words lb) (hla : la.length ≤ n) (hlb : lb.length ≤ n) (hn : n ≤ 1500000) (hmx : ¬ la.length < lb.length) (hnn : n = la.length) (w : World) (hra : RowAt w A la) (hrb : RowAt w Bv lb) :
 Calls Tryz.prog 325 #[.slice A la.length ca, .slice Bv lb.length cb] w (RetW w (wval la + wval lb)) := by
 have hmk := run_make_row' (P := Tryz.prog) 227 25 (.int .u64 0) 8 kr infoU64 rfl .i64 .i64 (n + 1) om om
 rw [show ((n + 1 : Nat) : Int) = (n : Int) + 1 by omega] at hmk
 have HWA := Hh hwa; have HWB := Hh hwb; have HRA := Hh hra; have HRB := Hh hrb; clear hwa hwb hra hrb
 have HLA := Hh hla; have HLB := Hh hlb; clear hla hlb
 have HM := OwnW.made w (n + 1)
 subst hnn
 have hmxI : max (la.length : Int) (lb.length : Int) = (la.length : Int) := by omega
 go_enter Tryz.func325, Tryz.ntmps325
 go_wp2
 go_loopw [7, 18] (fun cv iv wr => SumRel w w.heap.size la.length la lb cv iv wr) (fun _ iv _ => la.length - (intOf iv).toNat)
 case atStart => exact ⟨0, 0, _, Nat.zero_le _, Nat.zero_le _, rfl, rfl, by simp, Words.zeros _, HM, by simp [lo_zero], (Within.refl w).alloc _⟩
 case round =>
  obtain ⟨k, c, o, hk, hc, rfl, rfl, ho, hwo, hown, hval, hin⟩ := hrel
  have HV := Hh hval; have HO := Hh ho; have HWO := Hh hwo; clear hval ho hwo
  rcases Nat.lt_or_ge k la.length with hlt | hlt
  ·exact zz28
  ·obtain rfl : k = la.length := by omega
   have hco := hown.cell (i := la.length) (by rw [HO.out]; omega)
   have hfo := hown.frozen la.length
   have hsz := HO.out
   have hown2 := hown.set la.length c om
   have HL : Hid ((o.set la.length c).length = la.length + 1) := by rw [List.length_set]; exact hsz
   have CT := Hh (Pnorm (o.set la.length c) (some ⟨w.heap.size, 0, none⟩) (la.length + 1) (HWO.out.set _ _ om) (by rw [HL.out]; exact Nat.le_refl _) (by rw [HL.out]; omega) _ hown2.at)
   rw [HL.out] at CT
   clear hsz hown2
   go_wp2_with fail
   refine (CT.out).mono ?_; rintro e1 w1 ⟨rfl, rfl⟩
   go_wp2
   go_ret
   refine retW_cut (hown.set la.length c (by rw [HO.out]; omega)).at (HWO.out.set _ _ om) (by rw [HL.out]; exact Nat.le_refl _) (hin.setCell (Nat.le_refl _) _) ?_
   rw [← lo_all (o.set la.length c) (Nat.le_of_eq HL.out), lo_set_succ _ _ _ (by rw [HO.out]; omega), HV.out, lo_all _ HLA.out, lo_all _ HLB.out]
theorem Psum (a b : Nat) (A Bv : Option Addr) (ca cb : Nat) (ha : (dg a).length ≤ 1500000) (hb : (dg b).length ≤ 1500000) (w : World) (hra : RowAt w A (dg a)) (hrb : RowAt w Bv (dg b)) :
 Calls Tryz.prog 325 #[.slice A (dg a).length ca, .slice Bv (dg b).length cb] w (RetW w (a + b)) := by
 by_cases h : (dg a).length < (dg b).length
 ·have := Psum_lt (dg a) (dg b) _ A Bv ca cb (words_dg a) (words_dg b) (Nat.le_of_lt h) (Nat.le_refl _) hb h rfl w hra hrb
  rwa [wval_dg, wval_dg] at this
 ·have := Psum_ge (dg a) (dg b) _ A Bv ca cb (words_dg a) (words_dg b) (Nat.le_refl _) om ha h rfl w hra hrb
  rwa [wval_dg, wval_dg] at this
end Go.Proofs.YtgkcpnidmfejeaaGreatDoor.P64
end
section
namespace Go.Proofs.YtgkcpnidmfejeaaGreatDoor.P64
open Go.RowKit
def LessRel (W : World) (g : Nat) (la lb : List Nat) (cv iv : Value) (wr : World) : Prop :=
 ∃ (k c : Nat) (o : List Nat), k ≤ la.length ∧ c ≤ 1 ∧ cv = .int .u64 (c : Int) ∧ iv = .int .i64 (k : Int) ∧ o.length = la.length ∧ Words o ∧ OwnW wr g o ∧ lo o k + lo lb k = lo la k + 18446744073709551616 ^ k * c ∧ Within W wr
theorem LessRel.step {W wr : World} {g : Nat} {la lb o : List Nat} {k c x y : Nat} (u v q : Int) (hk : k < la.length) (hc : c ≤ 1) (ho : o.length = la.length) (hwo : Words o) (hown : OwnW wr g o) (hval : lo o k + lo lb k = lo la k + 18446744073709551616 ^ k * c) (hin : Within W wr)
 (hx : x = la.getD k 0) (hy : y = lb.getD k 0) (hx2 : x < 18446744073709551616) (hy2 : y < 18446744073709551616) (hg : W.heap.size ≤ g) (hu : u = (bor x y c : Int)) (hv : v = (((x + 18446744073709551616 - y - c) % 18446744073709551616 : Nat) : Int)) (hq : q = ((k + 1 : Nat) : Int)) :
 LessRel W g la lb (.int .u64 u) (.int .i64 q) (wr.setCell ⟨g, k, none⟩ (.int .u64 v)) := by
 subst hu hv hq
 have hb : bor x y c ≤ 1 := by unfold bor; split <;> omega
 refine ⟨k + 1, bor x y c, o.set k ((x + 18446744073709551616 - y - c) % 18446744073709551616), by omega, hb, rfl, rfl, by rw [List.length_set]; exact ho, hwo.set _ _ om, hown.set _ _ om, ?_, hin.setCell hg _⟩
 rw [lo_set_succ _ _ _ om, lo_succ la, lo_succ lb, ← hx, ← hy, Nat.pow_succ]
 rcases Nat.lt_or_ge x (c + y) with h | h
 ·have := minus_less (P := 18446744073709551616 ^ k) (a := x) (b := y) hval om
  rw [show bor x y c = 1 by unfold bor; rw [if_pos om], show (x + 18446744073709551616 - y - c) % 18446744073709551616 = x + 18446744073709551616 - (c + y) by omega]
  omega
 ·have := minus_more (P := 18446744073709551616 ^ k) (a := x) (b := y) hval om
  rw [show bor x y c = 0 by unfold bor; rw [if_neg om], show (x + 18446744073709551616 - y - c) % 18446744073709551616 = x - (c + y) by omega]
  omega
theorem Pless0 (la lb : List Nat) (A Bv : Option Addr) (ca cb : Nat) (hwa : Words la) (hwb : Words lb) (hla : la.length ≤ 1500000) (hll : lb.length ≤ la.length) (hge : wval lb ≤ wval la) (w : World) (hra : RowAt w A la) (hrb : RowAt w Bv lb) :
 Calls Tryz.prog 352 #[.slice A la.length ca, .slice Bv lb.length cb] w (RetW w (wval la - wval lb)) := by
 have hmk := run_make_row' (P := Tryz.prog) 227 25 (.int .u64 0) 8 kr infoU64 rfl .i64 .i64 la.length om om
 have HWA := Hh hwa; have HWB := Hh hwb; have HRA := Hh hra; have HRB := Hh hrb; clear hwa hwb hra hrb
 have HGE := Hh hge; have HLL := Hh hll; clear hge hll
 have HM := OwnW.made w la.length
 go_enter Tryz.func352, Tryz.ntmps352
 go_wp2
 go_loopw [6, 13] (fun cv iv wr => LessRel w w.heap.size la lb cv iv wr) (fun _ iv _ => la.length - (intOf iv).toNat)
 case atStart => exact ⟨0, 0, _, Nat.zero_le _, Nat.zero_le _, rfl, rfl, by simp, Words.zeros _, HM, by simp [lo_zero], (Within.refl w).alloc _⟩
 case round =>
  obtain ⟨k, c, o, hk, hc, rfl, rfl, ho, hwo, hown, hval, hin⟩ := hrel
  have HV := Hh hval; have HO := Hh ho; have HWO := Hh hwo; clear hval ho hwo
  rcases Nat.lt_or_ge k la.length with hlt | hlt
  ·obtain ⟨ga, rfl, hga, hca⟩ := (HRA.out.of hin).cell hlt
   obtain ⟨x, hxe⟩ : ∃ x, x = la.getD k 0 := ⟨_, rfl⟩
   have hx : x < 18446744073709551616 := by rw [hxe]; exact HWA.out.getD k
   rw [← hxe] at hca
   obtain ⟨y, hye⟩ : ∃ y, y = lb.getD k 0 := ⟨_, rfl⟩
   have hy : y < 18446744073709551616 := by rw [hye]; exact HWB.out.getD k
   have HX := Hh hxe; have HY := Hh hye; clear hxe hye
   have hco := hown.cell (i := k) (by rw [HO.out]; omega)
   have hfo := hown.frozen k
   have C2 := Hh (Pdigit lb Bv cb k y HY.out (by have := HLL.out; omega) om wr.drew ((HRB.out.of hin).drew))
   have A1 := fun w => sub64 x y c hc w
   go_wp2
   go_region_with (first | (go_at_call 328; refine C2.out.mono ?_; rintro e1 w1 ⟨rfl, rfl⟩) | simp only [A1])
   all_goals go_wp2
   all_goals (
    go_roundw
    case rel => exact LessRel.step (x := x) (y := y) _ _ _ hlt hc HO.out HWO.out hown.drew HV.out hin.drew HX.out HY.out hx hy (Nat.le_refl _) rfl rfl om
    case measure => simp [intOf]; omega)
  ·obtain rfl : k = la.length := by omega
   have CT := Hh (Pnorm o (some ⟨w.heap.size, 0, none⟩) la.length HWO.out (by rw [HO.out]; exact Nat.le_refl _) (by rw [HO.out]; omega) _ hown.at)
   rw [HO.out] at CT
   go_wp2_with fail
   refine (CT.out).mono ?_; rintro e1 w1 ⟨rfl, rfl⟩
   go_wp2
   go_ret
   refine retW_cut hown.at HWO.out (by rw [HO.out]; exact Nat.le_refl _) hin ?_
   have h1 := HV.out
   have h2 := lo_lt o HWO.out la.length
   rw [lo_all o (Nat.le_of_eq HO.out), lo_all la (Nat.le_refl _), lo_all lb HLL.out] at h1
   rw [lo_all o (Nat.le_of_eq HO.out)] at h2
   exact (minus_end h1 h2 HGE.out).2
theorem Pless (a b : Nat) (A Bv : Option Addr) (ca cb : Nat) (ha : (dg a).length ≤ 1500000) (hge : b ≤ a) (w : World) (hra : RowAt w A (dg a)) (hrb : RowAt w Bv (dg b)) :
 Calls Tryz.prog 352 #[.slice A (dg a).length ca, .slice Bv (dg b).length cb] w (RetW w (a - b)) := by
 have := Pless0 (dg a) (dg b) A Bv ca cb (words_dg a) (words_dg b) ha (dg_len_mono hge) (by rw [wval_dg, wval_dg]; exact hge) w hra hrb
 rw [wval_dg, wval_dg] at this
 exact this
end Go.Proofs.YtgkcpnidmfejeaaGreatDoor.P64
end
section
namespace Go.Proofs.YtgkcpnidmfejeaaGreatDoor.P64
open Go.RowKit
def CmpRel (W : World) (la lb : List Nat) (iv : Value) (wr : World) : Prop :=
 ∃ k : Nat, k ≤ la.length ∧ iv = .int .i64 ((k : Int) - 1) ∧ (∀ j, k ≤ j → la.getD j 0 = lb.getD j 0) ∧ Within W wr
theorem Pcompare_ne (n m : Nat) (A Bv : Option Addr) (ca cb : Nat) (h : n ≠ m) (hn : n ≤ 1500000) (hm : m ≤ 1500000) (w : World) :
 Calls Tryz.prog 344 #[.slice A n ca, .slice Bv m cb] w fun e w' => e = .returned (.int .i64 (if n < m then -1 else 1)) ∧ Within w w' := by
 have d0 : ((n : Int) != m) = true := bne_iff_ne.2 om
 rcases Nat.lt_or_ge n m with hlt | hlt
 ·rw [if_pos hlt]
  clear h
  go_enter Tryz.func344, Tryz.ntmps344
  go_wp2
  go_ret
  exact ⟨rfl, Within.refl _⟩
 ·rw [if_neg om]
  clear h
  go_enter Tryz.func344, Tryz.ntmps344
  go_wp2
  go_ret
  exact ⟨rfl, Within.refl _⟩
theorem Pcompare_eq (a b : Nat) (A Bv : Option Addr) (ca cb : Nat) (h : (dg b).length = (dg a).length) (ha : (dg a).length ≤ 1500000) (w : World) (hra : RowAt w A (dg a)) (hrb : RowAt w Bv (dg b)) :
 Calls Tryz.prog 344 #[.slice A (dg a).length ca, .slice Bv (dg a).length cb] w fun e w' => e = .returned (.int .i64 (cmpN a b)) ∧ Within w w' := by
 have d0 : (((dg a).length : Int) != (dg a).length) = false := bne_self_eq_false _
 have HRA := Hh hra; have HRB := Hh hrb; clear hra hrb
 have HL := Hh h; clear h
 go_enter Tryz.func344, Tryz.ntmps344
 go_wp2
 go_loopw [5] (fun iv wr => CmpRel w (dg a) (dg b) iv wr) (fun iv _ => (intOf iv + 1).toNat)
 case atStart => exact ⟨(dg a).length, Nat.le_refl _, by simp, fun j hj => by simp [List.getD_eq_getElem?_getD, hj, HL.out], Within.refl _⟩
 case round =>
  obtain ⟨k, hk, rfl, he, hin⟩ := hrel
  have HE := Hh he; clear he
  rcases k with _ | k
  ·rw [show ((0 : Nat) : Int) - 1 = -1 from rfl]
   go_wp2
   go_ret
   refine ⟨ret_int ?_, hin⟩
   rw [eq_of_all (a := a) (b := b) HL.out.symm (fun j => HE.out j (Nat.zero_le _)), cmpN_eq]
  ·obtain ⟨ga, rfl, hga, hca⟩ := (HRA.out.of hin).cell (i := k) om
   obtain ⟨gb, rfl, hgb, hcb⟩ := (HRB.out.of hin).cell (i := k) (by rw [HL.out]; omega)
   obtain ⟨x, hxe⟩ : ∃ x, x = (dg a).getD k 0 := ⟨_, rfl⟩
   obtain ⟨y, hye⟩ : ∃ y, y = (dg b).getD k 0 := ⟨_, rfl⟩
   rw [← hxe] at hca; rw [← hye] at hcb
   have HXE := Hh hxe; have HYE := Hh hye; clear hxe hye
   have e1 : ((k + 1 : Nat) : Int) - 1 = (k : Int) := by omega
   rw [e1]
   rcases Nat.lt_trichotomy x y with hxy | hxy | hxy
   ·have hxx : decide ((x : Int) < y) = true := decide_eq_true om
    have hx0 : ((x : Int) != y) = true := bne_iff_ne.2 om
    go_wp2
    go_quiet (fail)
    go_wp2
    go_quiet (fail)
    go_wp2
    go_ret
    refine ⟨ret_int ?_, (hin.drewN _).drewN _⟩
    rw [cmpN_lt (lt_of_top (i := k) HL.out.symm (fun j hj => HE.out j hj) (by rw [← HXE.out, ← HYE.out]; exact hxy))]
   ·subst hxy
    have hx0 : ((x : Int) != x) = false := bne_self_eq_false _
    go_wp2
    go_quiet (fail)
    go_wp2
    go_roundw
    case rel => exact ⟨k, by omega, rfl, fun j hj => by
     rcases Nat.eq_or_lt_of_le hj with h | h
     ·subst h; rw [← HXE.out, ← HYE.out]
     ·exact HE.out j h, hin.drewN _⟩
    case measure => simp [intOf]
   ·have hxx : decide ((x : Int) < y) = false := decide_eq_false om
    have hx0 : ((x : Int) != y) = true := bne_iff_ne.2 om
    go_wp2
    go_quiet (fail)
    go_wp2
    go_quiet (fail)
    go_wp2
    go_ret
    refine ⟨ret_int ?_, (hin.drewN _).drewN _⟩
    rw [cmpN_gt (lt_of_top (i := k) HL.out (fun j hj => (HE.out j hj).symm) (by rw [← HXE.out, ← HYE.out]; exact hxy))]
theorem Pcompare (a b : Nat) (A Bv : Option Addr) (ca cb : Nat) (ha : (dg a).length ≤ 1500000) (hb : (dg b).length ≤ 1500000) (w : World) (hra : RowAt w A (dg a)) (hrb : RowAt w Bv (dg b)) :
 Calls Tryz.prog 344 #[.slice A (dg a).length ca, .slice Bv (dg b).length cb] w fun e w' => e = .returned (.int .i64 (cmpN a b)) ∧ Within w w' := by
 by_cases h : (dg b).length = (dg a).length
 ·rw [h]; exact Pcompare_eq a b A Bv ca cb h ha w hra hrb
 ·refine (Pcompare_ne _ _ A Bv ca cb (fun e => h e.symm) ha hb w).mono ?_
  rintro e w' ⟨rfl, hb'⟩
  refine ⟨?_, hb'⟩
  rcases Nat.lt_or_ge (dg a).length (dg b).length with hlt | hlt
  ·rw [if_pos hlt, cmpN_lt (lt_of_len hlt)]
  ·rw [if_neg om, cmpN_gt (lt_of_len om)]
end Go.Proofs.YtgkcpnidmfejeaaGreatDoor.P64
end
section
namespace Go.Proofs.YtgkcpnidmfejeaaGreatDoor
section
variable {P : Program} {ops : Array Oper} {Q : Exit → Act → World → Prop} {md : Region.Mode} {S : World → Prop}
def OnlyN (Q : Exit → Act → World → Prop) : Exit → Act → World → Prop
 | .normal, a, w => Q .normal a w
 | _, _, _ => False
theorem OnlyN.imp {Q : Exit → Act → World → Prop} : ∀ (e : Exit) (a : Act) (w : World), OnlyN Q e a w → Q e a w := fun e a w h => by
 cases e <;> first | exact h | exact (h : False).elim
def wpAnyG (P : Program) (md : Region.Mode) (ops : Array Oper) (Q : Exit → Act → World → Prop) (S : World → Prop) (p : Nat) : Nat → Array Bool → Act → World → Prop
 | 0, listed, a, w => Region.ready md ops listed = [] ∧ Q .normal a w
 | fuel + 1, listed, a, w =>
  (Region.ready md ops listed = [] → Q .normal a w) ∧
  ∀ i ∈ Region.ready md ops listed, wpOp P ops Q i (fun a' w' => (i < p → S w') ∧ wpAnyG P md ops Q S p fuel (listed.setIfInBounds i true) a' w') a w
theorem wpAny_of_G {p : Nat} : ∀ (fuel : Nat) (listed : Array Bool) (a : Act) (w : World), wpAnyG P md ops Q S p fuel listed a w → wpAny P md ops Q fuel listed a w
 | 0, _, _, _, h => h
 | fuel + 1, _, _, _, h => ⟨h.1, fun i hi => wpOp_mono (fun _ _ h' => wpAny_of_G fuel _ _ _ h'.2) (h.2 i hi)⟩
theorem wpAnyG_first {p i : Nat} {oi : Oper} {v : Value} (hi : ops[i]? = some oi) (hsel : ∀ (j : Nat) (o : Oper) cs b, ops[j]? = some o → o.op ≠ .select cs b)
 (hQ : ∀ c a w, Q (.panic c) (a.put oi.dst v) w → Q (.panic c) a w) (hs : Region.sinkB md ops p = true) (hc : Region.chainB md ops p = true) (hn : p < ops.size) (hip : i < p) :
 ∀ (fuel : Nat) (listed : Array Bool) (a : Act) (w : World), HeadInv md ops p listed →
  (∀ j oj, ops[j]? = some oj → j ≠ i → listed.getD j true = false → (∀ e ∈ oj.after, Region.binds md e = true → e.on ≠ i) → oi.apart ops oj = true) →
  i ∈ Region.ready md ops listed → YieldsIf P ops S oi v a → S w →
  wpAnyG P md ops Q S p fuel (listed.setIfInBounds i true) (a.put oi.dst v) w → wpAnyG P md ops Q S p (fuel + 1) listed a w := by
 intro fuel
 induction fuel with
 | zero =>
  intro listed a w _ _ hr hy hS H
  refine ⟨fun h => (by rw [h] at hr; cases hr), fun j hj => ?_⟩
  by_cases hji : j = i
  ·subst hji; exact hy.wpOp hi hS ⟨fun _ => hS, H⟩
  ·have := ready_mono hj hji
   rw [H.1] at this
   cases this
 | succ fuel ih =>
  intro listed a w inv hfree hr hy hS H
  have hun := (mem_ready.1 hr).1
  refine ⟨fun h => (by rw [h] at hr; cases hr), fun j hj => ?_⟩
  have hjp : j < p := by
   rcases Nat.lt_or_ge j p with h | h
   ·exact h
   ·exact absurd hj (tail_waits hs hc hn inv _ i rfl hip hun j h)
  by_cases hji : j = i
  ·subst hji; exact hy.wpOp hi hS ⟨fun _ => hS, H⟩
  ·have h1 := H.2 j (ready_mono hj hji)
   obtain ⟨hjun, oj, hoj, hall⟩ := mem_ready.1 hj
   have hnot : ∀ e ∈ oj.after, Region.binds md e = true → e.on ≠ i := fun e he hb heq => by
    have h1 := hall e he hb
    rw [heq, getD_both hun] at h1
    cases h1
   have h2 := wpOp_putIf hoj (hfree j oj hoj hji hjun hnot) (fun cs b => hsel i oi cs b hi) (fun cs b => hsel j oj cs b hoj) hQ hy h1
   have hfree' : ∀ k ok, ops[k]? = some ok → k ≠ i → (listed.setIfInBounds j true).getD k true = false →
    (∀ e ∈ ok.after, Region.binds md e = true → e.on ≠ i) → oi.apart ops ok = true := fun k ok hk hki hun hno => by
    refine hfree k ok hk hki ?_ hno
    by_cases hjk : j = k
    ·subst hjk; exact hjun
    ·rw [getD_set_ne true hjk] at hun; exact hun
   refine wpOp_mono (fun a' w' h3 => ⟨fun _ => h3.2.1 hjp, ih (listed.setIfInBounds j true) a' w' (inv.set hj hjp) hfree' (ready_mono hr (Ne.symm hji)) h3.1 (h3.2.1 hjp) ?_⟩) h2
   rw [Array.setIfInBounds_comm _ _ hji]
   exact h3.2.2
def schedB (md : Region.Mode) (ops : Array Oper) (p : Nat) : List (Nat × Bool) → Array Bool → Bool
 | [], listed => (Region.ready md ops listed).isEmpty
 | (k, true) :: r, listed => (Region.ready md ops listed).contains k && Region.free md ops listed k && decide (k < p) && schedB md ops p r (listed.setIfInBounds k true)
 | (k, false) :: r, listed => decide (Region.ready md ops listed = [k]) && (decide (k < p) || r.all fun x => !x.2) && schedB md ops p r (listed.setIfInBounds k true)
def firmUpon (w : World) (v : Value) : Result Next → Prop
 | .ok (.value u) w' => w' = w ∧ u = v
 | _ => False
def firmAt (P : Program) (o : Oper) (a : Act) (w : World) (v : Value) : Prop := firmUpon w v ((execOp a.eval o).run P w)
theorem firmAt.run {o : Oper} {a : Act} {w : World} {v : Value} (h : firmAt P o a w v) : (execOp a.eval o).run P w = .ok (.value v) w := by
 unfold firmAt at h
 generalize (execOp a.eval o).run P w = r at *
 cases r with
 | ok n w' =>
  cases n <;> simp only [firmUpon] at h
  obtain ⟨rfl, rfl⟩ := h
  rfl
 | halt x w' => simp only [firmUpon] at h
def wpSched (P : Program) (ops : Array Oper) (Q : Exit → Act → World → Prop) (S : World → Prop) (p : Nat) : List (Nat × Bool) → Act → World → Prop
 | [], a, w => Q .normal a w
 | (k, true) :: r, a, w => S w ∧ ∃ o v, ops[k]? = some o ∧ YieldsIf P ops S o v a ∧ wpSched P ops Q S p r (a.put o.dst v) w
 | (k, false) :: r, a, w => wpOp P ops Q k (fun a' w' => (k < p → S w') ∧ wpSched P ops Q S p r a' w') a w
theorem wpAnyG_sched {p : Nat} (hsel : Region.noSelect ops = true) (hQ : ∀ c a d v w, Q (.panic c) (a.put d v) w → Q (.panic c) a w) (hs : Region.sinkB md ops p = true) (hc : Region.chainB md ops p = true) (hn : p < ops.size) :
 ∀ (ord : List (Nat × Bool)) (listed : Array Bool) (a : Act) (w : World), (HeadInv md ops p listed ∨ (ord.all fun x => !x.2) = true) → schedB md ops p ord listed = true → wpSched P ops Q S p ord a w → wpAnyG P md ops Q S p ord.length listed a w
 | [], listed, a, w, _, hB, h => ⟨by simpa [schedB] using hB, h⟩
 | (k, true) :: r, listed, a, w, inv, hB, h => by
  simp only [schedB, Bool.and_eq_true, decide_eq_true_eq] at hB
  obtain ⟨⟨⟨hr, hf⟩, hkp⟩, hB'⟩ := hB
  obtain ⟨hS, o, v, ho, hy, hK⟩ := h
  have inv' : HeadInv md ops p listed := by
   rcases inv with h | h
   ·exact h
   ·simp at h
  have hr' : k ∈ Region.ready md ops listed := by simpa using hr
  exact wpAnyG_first ho (Region.noSelect_spec hsel) (fun c a w => hQ c a _ _ w) hs hc hn hkp r.length listed a w inv' (Region.free_spec ho hf) hr' hy hS
   (wpAnyG_sched hsel hQ hs hc hn r _ _ _ (.inl (inv'.set hr' hkp)) hB' hK)
 | (k, false) :: r, listed, a, w, inv, hB, h => by
  simp only [schedB, Bool.and_eq_true, decide_eq_true_eq, Bool.or_eq_true] at hB
  obtain ⟨⟨hr, hd⟩, hB'⟩ := hB
  refine ⟨fun h0 => (by rw [hr] at h0; cases h0), fun i hi => ?_⟩
  have hi' : k ∈ Region.ready md ops listed := by rw [hr]; exact List.mem_singleton.2 rfl
  rw [hr] at hi
  have hik : i = k := by simpa using hi
  subst hik
  refine wpOp_mono (fun a' w' h' => ⟨h'.1, wpAnyG_sched hsel hQ hs hc hn r _ _ _ ?_ hB' h'.2⟩) h
  rcases inv with inv | inv
  ·rcases hd with hd | hd
   ·exact .inl (inv.set hi' hd)
   ·exact .inr hd
  ·right
   simp only [List.all_cons, Bool.and_eq_true] at inv
   exact inv.2
def schedAllB (ops : Array Oper) (p : Nat) (ord : List (Nat × Bool)) : Bool :=
 Region.noSelect ops && decide (p < ops.size) && Region.sinkB .any ops p && Region.chainB .any ops p && decide (ord.length = ops.size) && schedB .any ops p ord (Array.replicate ops.size false)
theorem wp_region_sched {id : Nat} {a : Act} {w : World} (S : World → Prop) (p : Nat) (ord : List (Nat × Bool)) (hm : P.follows .mixedOrders = true) (hB : schedAllB ops p ord = true) (hS : S w.drew)
 (h : S w.drew → wpSched P ops (OnlyN Q) S p ord a w.drew) : (Code.region id ops true).wp P Q a w := by
 simp only [schedAllB, Bool.and_eq_true, decide_eq_true_eq] at hB
 obtain ⟨⟨⟨⟨⟨hsel, hn⟩, hs⟩, hc⟩, hlen⟩, hsc⟩ := hB
 have inv0 : HeadInv .any ops p (Array.replicate ops.size false) :=
  ⟨by simp, fun j oj _ hl => (by rw [getD_replicate_false] at hl; cases hl), fun t _ ht => getD_in (by simpa using ht) (getD_replicate_false _ _)⟩
 have H := wpAnyG_sched (md := .any) (S := S) hsel (Q := OnlyN Q) (fun c a d v w h => h) hs hc hn ord _ a w.drew (.inl inv0) hsc (h hS)
 have H2 := wpAny_of_G _ _ _ _ H
 rw [hlen] at H2
 exact Code.wp_mono OnlyN.imp (wp_region_any hm H2)
variable {p k : Nat} {r : List (Nat × Bool)} {a : Act} {w : World}
theorem sched_nil (h : Q .normal a w) : wpSched P ops (OnlyN Q) S p [] a w := h
theorem sched_firm {o : Oper} {v : Value} (ho : ops.toList[k]? = some o) (hg : o.guard = none) (hS : S w) (h1 : ∀ w, S w → firmAt P o a w v) (h2 : wpSched P ops (OnlyN Q) S p r (a.put o.dst v) w) : wpSched P ops (OnlyN Q) S p ((k, true) :: r) a w :=
 ⟨hS, o, v, (Array.getElem?_toList ▸ ho), .inl ⟨by simp [Region.wanted, hg], fun w hw => (h1 w hw).run⟩, h2⟩
theorem sched_one {o : Oper} (ho : ops.toList[k]? = some o) (hg : o.guard = none) (h : ∀ K : Act → World → Prop, (∀ a' w', (k < p → S w') → wpSched P ops (OnlyN Q) S p r a' w' → K a' w') → o.wp P a w K (OnlyN Q)) : wpSched P ops (OnlyN Q) S p ((k, false) :: r) a w := by
 show wpOp P ops (OnlyN Q) k _ a w
 unfold wpOp
 rw [Array.getElem?_toList] at ho
 simp only [ho]
 rw [if_pos (by simp [Region.wanted, hg])]
 exact .inl (h _ fun a' w' hS hr => ⟨hS, hr⟩)
/-! schedules with branches: two operations that may come up in either order -/
inductive Sch where
 | nil : Sch
 | firm (k : Nat) (r : Sch) : Sch
 | one (k : Nat) (r : Sch) : Sch
 | two (i : Nat) (r : Sch) (j : Nat) (s : Sch) : Sch
def Sch.late : Sch → Bool
 | .nil => true
 | .one _ r => r.late
 | _ => false
def Sch.long : Sch → Nat → Bool
 | .nil, n => decide (n = 0)
 | .firm _ r, n => decide (0 < n) && r.long (n - 1)
 | .one _ r, n => decide (0 < n) && r.long (n - 1)
 | .two _ r _ s, n => decide (0 < n) && r.long (n - 1) && s.long (n - 1)
def Sch.ok (md : Region.Mode) (ops : Array Oper) (p : Nat) : Sch → Array Bool → Bool
 | .nil, listed => (Region.ready md ops listed).isEmpty
 | .firm k r, listed => (Region.ready md ops listed).contains k && Region.free md ops listed k && decide (k < p) && r.ok md ops p (listed.setIfInBounds k true)
 | .one k r, listed => decide (Region.ready md ops listed = [k]) && (decide (k < p) || r.late) && r.ok md ops p (listed.setIfInBounds k true)
 | .two i r j s, listed => decide (Region.ready md ops listed = [i, j]) && decide (i < p) && decide (j < p) && r.ok md ops p (listed.setIfInBounds i true) && s.ok md ops p (listed.setIfInBounds j true)
def wpSch (P : Program) (ops : Array Oper) (Q : Exit → Act → World → Prop) (S : World → Prop) (p : Nat) : Sch → Act → World → Prop
 | .nil, a, w => Q .normal a w
 | .firm k r, a, w => S w ∧ ∃ o v, ops[k]? = some o ∧ YieldsIf P ops S o v a ∧ wpSch P ops Q S p r (a.put o.dst v) w
 | .one k r, a, w => wpOp P ops Q k (fun a' w' => (k < p → S w') ∧ wpSch P ops Q S p r a' w') a w
 | .two i r j s, a, w => wpOp P ops Q i (fun a' w' => S w' ∧ wpSch P ops Q S p r a' w') a w ∧ wpOp P ops Q j (fun a' w' => S w' ∧ wpSch P ops Q S p s a' w') a w
theorem zz45 {p : Prop} (h : p := by
 refine ⟨fun h0 => (by rw [hr] at h0; cases h0), fun q hq => ?_⟩
 have hi' : i ∈ Region.ready md ops listed := by rw [hr]; simp
 have hj' : j ∈ Region.ready md ops listed := by rw [hr]; simp
 rw [hr] at hq
 rcases List.mem_cons.1 hq with e | e
 ·subst e
  exact wpOp_mono (fun a' w' h' => ⟨fun _ => h'.1, ih1 m _ _ _ hl.1.2 (.inl (inv'.set hi' hip)) hB1 h'.2⟩) h.1
 ·have e' : q = j := by simpa using e
  subst e'
  exact wpOp_mono (fun a' w' h' => ⟨fun _ => h'.1, ih2 m _ _ _ hl.2 (.inl (inv'.set hj' hjp)) hB2 h'.2⟩) h.2) : p := h
theorem zz51 {p : Prop} (h : p := by
 obtain ⟨⟨hr, hd⟩, hB'⟩ := hB
 refine ⟨fun h0 => (by rw [hr] at h0; cases h0), fun i hi => ?_⟩
 have hi' : k ∈ Region.ready md ops listed := by rw [hr]; exact List.mem_singleton.2 rfl
 rw [hr] at hi
 have hik : i = k := by simpa using hi
 subst hik
 refine wpOp_mono (fun a' w' h' => ⟨h'.1, ih m _ _ _ hl.2 ?_ hB' h'.2⟩) h
 rcases inv with inv | inv
 ·rcases hd with hd | hd
  ·exact .inl (inv.set hi' hd)
  ·exact .inr hd
 ·exact .inr inv) : p := h
theorem zz67 {p : Prop} (h : p := by
 have hr' : k ∈ Region.ready md ops listed := by simpa using hr
 exact wpAnyG_first ho (Region.noSelect_spec hsel) (fun c a w => hQ c a _ _ w) hs hc hn hkp m listed a w inv' (Region.free_spec ho hf) hr' hy hS
  (ih m _ _ _ hl.2 (.inl (inv'.set hr' hkp)) hB' hK)) : p := h
theorem wpAnyG_sch {p : Nat} (hsel : Region.noSelect ops = true) (hQ : ∀ c a d v w, Q (.panic c) (a.put d v) w → Q (.panic c) a w) (hs : Region.sinkB md ops p = true) (hc : Region.chainB md ops p = true) (hn : p < ops.size) :
 ∀ (t : Sch) (n : Nat) (listed : Array Bool) (a : Act) (w : World), t.long n = true → (HeadInv md ops p listed ∨ t.late = true) → t.ok md ops p listed = true → wpSch P ops Q S p t a w → wpAnyG P md ops Q S p n listed a w := by
 intro t
 induction t with
 | nil =>
  intro n listed a w hl _ hB h
  simp only [Sch.long, decide_eq_true_eq] at hl
  subst hl
  exact ⟨by simpa [Sch.ok] using hB, h⟩
 | firm k r ih =>
  intro n listed a w hl inv hB h
  simp only [Sch.long, Bool.and_eq_true, decide_eq_true_eq] at hl
  obtain ⟨m, rfl⟩ : ∃ m, n = m + 1 := ⟨n - 1, by omega⟩
  simp only [Sch.ok, Bool.and_eq_true, decide_eq_true_eq] at hB
  obtain ⟨⟨⟨hr, hf⟩, hkp⟩, hB'⟩ := hB
  obtain ⟨hS, o, v, ho, hy, hK⟩ := h
  have inv' : HeadInv md ops p listed := by
   rcases inv with h | h
   ·exact h
   ·simp [Sch.late] at h
  exact zz67
 | one k r ih =>
  intro n listed a w hl inv hB h
  simp only [Sch.long, Bool.and_eq_true, decide_eq_true_eq] at hl
  obtain ⟨m, rfl⟩ : ∃ m, n = m + 1 := ⟨n - 1, by omega⟩
  simp only [Sch.ok, Bool.and_eq_true, decide_eq_true_eq, Bool.or_eq_true] at hB
  exact zz51
 | two i r j s ih1 ih2 =>
  intro n listed a w hl inv hB h
  simp only [Sch.long, Bool.and_eq_true, decide_eq_true_eq] at hl
  obtain ⟨m, rfl⟩ : ∃ m, n = m + 1 := ⟨n - 1, by omega⟩
  simp only [Sch.ok, Bool.and_eq_true, decide_eq_true_eq] at hB
  obtain ⟨⟨⟨⟨hr, hip⟩, hjp⟩, hB1⟩, hB2⟩ := hB
  have inv' : HeadInv md ops p listed := by
   rcases inv with h | h
   ·exact h
   ·simp [Sch.late] at h
  exact zz45
def Sch.okAll (ops : Array Oper) (p : Nat) (t : Sch) : Bool :=
 Region.noSelect ops && decide (p < ops.size) && Region.sinkB .any ops p && Region.chainB .any ops p && t.long ops.size && t.ok .any ops p (Array.replicate ops.size false)
theorem wp_region_sch {id : Nat} {a : Act} {w : World} (S : World → Prop) (p : Nat) (t : Sch) (hm : P.follows .mixedOrders = true) (hB : t.okAll ops p = true) (hS : S w.drew)
 (h : S w.drew → wpSch P ops (OnlyN Q) S p t a w.drew) : (Code.region id ops true).wp P Q a w := by
 simp only [Sch.okAll, Bool.and_eq_true, decide_eq_true_eq] at hB
 obtain ⟨⟨⟨⟨⟨hsel, hn⟩, hs⟩, hc⟩, hlen⟩, hsc⟩ := hB
 have inv0 : HeadInv .any ops p (Array.replicate ops.size false) :=
  ⟨by simp, fun j oj _ hl => (by rw [getD_replicate_false] at hl; cases hl), fun t _ ht => getD_in (by simpa using ht) (getD_replicate_false _ _)⟩
 exact Code.wp_mono OnlyN.imp (wp_region_any hm (wpAny_of_G _ _ _ _ (wpAnyG_sch (md := .any) (S := S) hsel (Q := OnlyN Q) (fun c a d v w h => h) hs hc hn t _ _ a w.drew hlen (.inl inv0) hsc (h hS))))
variable {t u : Sch} {i j : Nat}
theorem sch_nil (h : Q .normal a w) : wpSch P ops (OnlyN Q) S p .nil a w := h
theorem sch_firm {o : Oper} {v : Value} (ho : ops.toList[k]? = some o) (hg : o.guard = none) (hS : S w) (h1 : ∀ w, S w → firmAt P o a w v) (h2 : wpSch P ops (OnlyN Q) S p t (a.put o.dst v) w) : wpSch P ops (OnlyN Q) S p (.firm k t) a w :=
 ⟨hS, o, v, (Array.getElem?_toList ▸ ho), .inl ⟨by simp [Region.wanted, hg], fun w hw => (h1 w hw).run⟩, h2⟩
theorem sch_want {o : Oper} {v : Value} (ho : ops.toList[k]? = some o) (hg : Region.wanted o (yielded ops a.tmps) = true) (hS : S w) (h1 : ∀ w, S w → firmAt P o a w v) (h2 : wpSch P ops (OnlyN Q) S p t (a.put o.dst v) w) : wpSch P ops (OnlyN Q) S p (.firm k t) a w :=
 ⟨hS, o, v, (Array.getElem?_toList ▸ ho), .inl ⟨hg, fun w hw => (h1 w hw).run⟩, h2⟩
theorem sch_skip {o : Oper} (ho : ops.toList[k]? = some o) (hg : Region.wanted o (yielded ops a.tmps) = false) (hS : S w) (h2 : wpSch P ops (OnlyN Q) S p t (a.put o.dst undef) w) : wpSch P ops (OnlyN Q) S p (.firm k t) a w :=
 ⟨hS, o, undef, (Array.getElem?_toList ▸ ho), .inr ⟨hg, rfl⟩, h2⟩
theorem zz103 {p : Prop} (h : p := by
 unfold wpOp
 rw [Array.getElem?_toList] at ho
 simp only [ho]
 rw [if_pos (by simp [Region.wanted, hg])]
 exact .inl (h _ fun a' w' hr => hr)) : p := h
theorem sch_op {o : Oper} {R : Act → World → Prop} (ho : ops.toList[k]? = some o) (hg : o.guard = none) (h : ∀ K : Act → World → Prop, (∀ a' w', R a' w' → K a' w') → o.wp P a w K (OnlyN Q)) : wpOp P ops (OnlyN Q) k R a w := by
 exact zz103
theorem sch_one {o : Oper} (ho : ops.toList[k]? = some o) (hg : o.guard = none) (h : ∀ K : Act → World → Prop, (∀ a' w', (k < p → S w') → wpSch P ops (OnlyN Q) S p t a' w' → K a' w') → o.wp P a w K (OnlyN Q)) : wpSch P ops (OnlyN Q) S p (.one k t) a w :=
 sch_op ho hg fun K hK => h K fun a' w' hS hr => hK a' w' ⟨hS, hr⟩
theorem sch_two {o o' : Oper} (ho : ops.toList[i]? = some o) (hg : o.guard = none) (ho' : ops.toList[j]? = some o') (hg' : o'.guard = none)
 (h : ∀ K : Act → World → Prop, (∀ a' w', S w' → wpSch P ops (OnlyN Q) S p t a' w' → K a' w') → o.wp P a w K (OnlyN Q))
 (h' : ∀ K : Act → World → Prop, (∀ a' w', S w' → wpSch P ops (OnlyN Q) S p u a' w' → K a' w') → o'.wp P a w K (OnlyN Q)) : wpSch P ops (OnlyN Q) S p (.two i t j u) a w :=
 ⟨sch_op ho hg fun K hK => h K fun a' w' hS hr => hK a' w' ⟨hS, hr⟩, sch_op ho' hg' fun K hK => h' K fun a' w' hS hr => hK a' w' ⟨hS, hr⟩⟩
theorem wp_region_schW {id : Nat} {a : Act} {w : World} (p : Nat) (t : Sch) (hm : P.follows .mixedOrders = true) (hB : t.okAll ops p = true)
 (h : wpSch P ops (OnlyN Q) (Within w) p t a w.drew) : (Code.region id ops true).wp P Q a w :=
 wp_region_sch (Within w) p t hm hB (Within.refl w).drew fun _ => h
theorem wp_region_schG {id : Nat} {a : Act} {w : World} (F : World → Prop) (p : Nat) (t : Sch) (hm : P.follows .mixedOrders = true) (hB : t.okAll ops p = true) (hF : F w)
 (h : ∀ w0, F w0 → wpSch P ops (OnlyN Q) (Within w0) p t a w0.drew) : (Code.region id ops true).wp P Q a w := wp_region_schW p t hm hB (h w hF)
end
end Go.Proofs.YtgkcpnidmfejeaaGreatDoor
end
section
namespace Go.Proofs.YtgkcpnidmfejeaaGreatDoor.P64
open Go.RowKit
attribute [go_sem] firmAt firmUpon
def uv (l : List Nat) : List Value := l.map fun (x : Nat) => .int .u64 (x : Int)
theorem add_zero_off (g j : Nat) : (⟨g, 0, none⟩ : Addr).add j = ⟨g, j, none⟩ := by
 unfold Addr.add; split
 ·rename_i h; subst h; rfl
 ·simp
theorem uv_at (l : List Nat) {j : Nat} {u : Value} (h : (uv l)[j]? = some u) : j < l.length ∧ u = .int .u64 ((l.getD j 0 : Nat) : Int) := by
 unfold uv at h
 rw [List.getElem?_map] at h
 by_cases hj : j < l.length
 ·rw [List.getElem?_eq_getElem hj] at h
  refine ⟨hj, ?_⟩
  simp at h
  rw [← h]; simp [List.getD_eq_getElem?_getD, hj]
 ·rw [List.getElem?_eq_none om] at h; simp at h
theorem rowAt_of_owns {w : World} {base n : Nat} {v : Value} {l : List Nat} (h : w.ownsRow base 25 1 v n (uv l)) : ∃ A c, v = .slice A l.length c ∧ l.length ≤ c ∧ RowAt w A l := by
 have hlen : l.length = n := by have := h.1; simpa [uv] using this
 subst hlen
 rcases h.2 with ⟨rfl, h0⟩ | ⟨g, cap, cur, rfl, _, hb, hc, _, hsz, htk⟩
 ·refine ⟨none, 0, by rw [h0], by omega, ?_⟩
  intro hp; omega
 ·refine ⟨_, _, rfl, hc, fun _ => ⟨g, cur.size, fun i => (cur[i]?).getD undef, rfl, by omega, ⟨cur, hb, rfl, fun i hi => by simp [hi]⟩, fun i hi => ?_⟩⟩
  have : (cur.toList.take (l.length * 1))[i]? = (uv l)[i]? := by rw [htk]
  rw [List.getElem?_take, if_pos om, Array.getElem?_toList] at this
  show (cur[i]?).getD undef = _
  rw [this]
  unfold uv
  simp [List.getD_eq_getElem?_getD, hi]
theorem run_append_nil_nil {P : Program} (w : World) (t ty e : TypeId) (i : TypeInfo) (ht : P.underlying t = some (.slice e)) (hi : P.info? e = some i) (c : Nat) : (Builtin.append_ #[t, t] ty #[.slice none 0 0, .slice none 0 c]).run P w = .ok (.slice none 0 0) w := by
 simp [Builtin.append_, run_underlying ht, sizeOf, typeInfo, hi, Builtin.lenOf, Builtin.firstCells]
theorem run_copy {w : World} (A : Option Addr) (l : List Nat) (c : Nat) (hr : RowAt w A l) (hl : l.length ≤ 3000000) :
 ∃ A' c' w', (Builtin.append_ #[227, 227] 227 #[.slice none 0 0, .slice A l.length c]).run Tryz.prog w = .ok (.slice A' l.length c') w' ∧ l.length ≤ c' ∧ RowAt w' A' l ∧ Within w w' := by
 obtain ⟨i0, hi0, hz0, hz1, hz2⟩ := info_parts infoU64
 have hU : Tryz.prog.underlying 227 = some (.slice 25) := by kernel_rfl
 rcases A with _ | ad
 ·have h0 : l = [] := by
   rcases Nat.eq_zero_or_pos l.length with h | h
   ·exact List.eq_nil_of_length_eq_zero h
   ·obtain ⟨g, _, _, e, _⟩ := hr h; cases e
  subst h0
  exact ⟨none, 0, w, run_append_nil_nil w _ _ _ i0 hU hi0 c, by simp, RowAt.nil, Within.refl _⟩
 ·have hcells : ∀ j u, (uv l)[j]? = some u → w.cell? (ad.add j) = some u := by
   intro j u hu
   obtain ⟨hj, rfl⟩ := uv_at l hu
   obtain ⟨g, e, _, hc⟩ := hr.cell hj
   have e' := Option.some.inj e
   rw [e', add_zero_off]; exact hc
  obtain ⟨v', w', hrun, h2, h3, _, _⟩ := run_append_own_at (P := Tryz.prog) w w.heap.size 227 227 25 i0 (.int .u64 0) 1 8 hU hi0 hz0 hz1 hz2 rfl dc (.slice none 0 0) 0 [] (World.ownsRow_nil _ _ _ _) ad l.length c (uv l)
   (by simp [uv]) hcells (by intro u hu; obtain ⟨x, _, rfl⟩ := List.mem_map.1 hu; rfl) (by unfold maxLen; omega) om (Nat.le_refl _)
  rw [List.nil_append] at h2
  obtain ⟨A', c', rfl, hc, hr'⟩ := rowAt_of_owns h2
  refine ⟨A', c', w', hrun, hc, hr', ⟨h3.os, h3.tape, h3.output, h3.size, fun k hk => h3.block k hk (by intro e; cases e)⟩⟩
theorem wp_copy {w : World} {o : Oper} {a : Act} {K : Act → World → Prop} {Q : Exit → Act → World → Prop} (s x : Operand) (A : Option Addr) (l : List Nat) (c : Nat)
 (ho : o.op = .call { callee := .builtin .append, args := #[s, x], argTypes := #[227, 227] }) (ht : o.type = 227) (hs : a.eval s = .slice none 0 0) (hx : a.eval x = .slice A l.length c) (hr : RowAt w A l) (hl : l.length ≤ 3000000)
 (h : ∀ A' c' w', l.length ≤ c' → RowAt w' A' l → Within w w' → K (a.put o.dst (.slice A' l.length c')) w') : o.wp Tryz.prog a w K Q := by
 obtain ⟨A', c', w', hrun, h1, h2, h3⟩ := run_copy A l c hr hl
 rw [← ht] at hrun
 unfold Oper.wp execOp
 simp only [ho, resolve, invoke, builtin, Sem.run_bind, Sem.run_pure, Result.andThen_ok, List.map_toArray, List.map_cons, List.map_nil, hs, hx, ht] at hrun ⊢
 rw [hrun]
 exact h A' c' w' h1 h2 h3
theorem Pclone (n : Nat) (A : Option Addr) (c : Nat) (hl : (dg n).length ≤ 3000000) (w : World) (hr : RowAt w A (dg n)) : Calls Tryz.prog 264 #[.slice A (dg n).length c] w (RetW w n) := by
 have HR := Hh hr; clear hr
 obtain ⟨l, hle⟩ : ∃ l, l = dg n := ⟨_, rfl⟩
 rw [← hle] at hl HR ⊢
 go_enter Tryz.func264, Tryz.ntmps264
 go_wp2_with (refine wpList_plain rfl fun K hK => ?_; refine wp_copy (.const (.slice none 0 0)) (.tmp 3) A l c rfl rfl rfl rfl HR.out hl ?_; intro A' c' w2 hc' hr' hb'; refine hK _ _ ?_)
 go_ret
 subst hle
 exact ⟨A', c', rfl, hc', hr', hb'⟩
def TimesOut (W : World) (g : Nat) (la lb : List Nat) (iv : Value) (wr : World) : Prop :=
 ∃ (i : Nat) (o : List Nat), i ≤ la.length ∧ iv = .int .i64 (i : Int) ∧ o.length = la.length + lb.length ∧ Words o ∧ OwnW wr g o ∧ lo o (i + lb.length) = lo la i * wval lb ∧ Within W wr
def TimesIn (W : World) (g : Nat) (lb o0 : List Nat) (x i : Nat) (cv kv : Value) (wr : World) : Prop :=
 ∃ (k c : Nat) (o : List Nat), k ≤ lb.length ∧ c < 18446744073709551616 ∧ cv = .int .u64 (c : Int) ∧ kv = .int .i64 (k : Int) ∧ o.length = o0.length ∧ Words o ∧ OwnW wr g o ∧ lo o (i + k) + 18446744073709551616 ^ (i + k) * c = lo o0 (i + k) + 18446744073709551616 ^ i * (x * lo lb k) ∧ (∀ j, i + k ≤ j → o.getD j 0 = o0.getD j 0) ∧ Within W wr
theorem TimesIn.step {W wr : World} {g : Nat} {lb o0 o : List Nat} {x i k c y z : Nat} (u v q : Int) (hn : i + k < o.length) (hk : k < lb.length) (hc : c < 18446744073709551616) (ho : o.length = o0.length) (hwo : Words o) (hown : OwnW wr g o)
 (hval : lo o (i + k) + 18446744073709551616 ^ (i + k) * c = lo o0 (i + k) + 18446744073709551616 ^ i * (x * lo lb k)) (hrest : ∀ j, i + k ≤ j → o.getD j 0 = o0.getD j 0) (hin : Within W wr) (hg : W.heap.size ≤ g)
 (hx : x < 18446744073709551616) (hy : y = lb.getD k 0) (hy2 : y < 18446744073709551616) (hz : z = o.getD (i + k) 0) (hz2 : z < 18446744073709551616)
 (hu : u = (((x * y + z + c) / 18446744073709551616 : Nat) : Int)) (hv : v = (((x * y + z + c) % 18446744073709551616 : Nat) : Int)) (hq : q = ((k + 1 : Nat) : Int)) :
 TimesIn W g lb o0 x i (.int .u64 u) (.int .i64 q) (wr.setCell ⟨g, i + k, none⟩ (.int .u64 v)) := by
 subst hu hv hq
 have hm := word_mul hx hy2
 refine ⟨k + 1, (x * y + z + c) / 18446744073709551616, o.set (i + k) ((x * y + z + c) % 18446744073709551616), by omega, by omega, rfl, rfl, by rw [List.length_set]; exact ho, hwo.set _ _ om, OwnW.set hown _ _ hn, ?_, ?_, hin.setCell hg _⟩
 ·rw [show i + (k + 1) = i + k + 1 by omega, lo_set_succ _ _ _ hn, lo_succ o0, lo_succ lb, ← hy, ← hrest (i + k) (Nat.le_refl _), ← hz, Nat.pow_succ]
  have := times_step (P := 18446744073709551616 ^ (i + k)) (Q := 18446744073709551616 ^ i * (x * (18446744073709551616 ^ k * y))) (x := x) (y := y) (z := z) hval _ rfl (by rw [Nat.pow_add, Nat.mul_assoc]; congr 1; rw [Nat.mul_left_comm])
  rw [Nat.mul_add x, Nat.mul_add]
  exact this
 ·intro j hj
  rw [lset_ne _ _ _ _ om]
  exact hrest j om
theorem zz52 {p : Prop} (h : p := by
 go_wp2
 go_ret
 exact ⟨none, 0, by rw [dg_zero]; rfl, by rw [dg_zero]; exact Nat.le_refl _, by rw [dg_zero]; exact RowAt.nil, Within.refl _⟩) : p := h
theorem Ptimes_nil (n m : Nat) (A Bv : Option Addr) (ca cb : Nat) (h : n = 0 ∨ m = 0) (w : World) : Calls Tryz.prog 310 #[.slice A n ca, .slice Bv m cb] w (RetW w 0) := by
 rcases h with h | h
 ·subst h
  go_enter Tryz.func310, Tryz.ntmps310
  exact zz52
 ·subst h
  rcases n with _ | n
  ·go_enter Tryz.func310, Tryz.ntmps310
   exact zz52
  ·have d1 : (((n + 1 : Nat) : Int) == 0) = false := beq_eq_false_iff_ne.2 om
   have d2 : ((n : Int) + 1 == 0) = false := beq_eq_false_iff_ne.2 om
   go_enter Tryz.func310, Tryz.ntmps310
   exact zz52
theorem Ptimes0 (la lb : List Nat) (A Bv : Option Addr) (ca cb : Nat) (hwa : Words la) (hwb : Words lb) (hla : la.length ≤ 700000) (hlb : lb.length ≤ 700000) (ha0 : 0 < la.length) (hb0 : 0 < lb.length) (w : World) (hra : RowAt w A la) (hrb : RowAt w Bv lb) :
 Calls Tryz.prog 310 #[.slice A la.length ca, .slice Bv lb.length cb] w (RetW w (wval la * wval lb)) := by
 have hmk := run_make_row' (P := Tryz.prog) 227 25 (.int .u64 0) 8 kr infoU64 rfl .i64 .i64 (la.length + lb.length) om om
 rw [show ((la.length + lb.length : Nat) : Int) = (la.length : Int) + (lb.length : Int) by omega] at hmk
 have HWA := Hh hwa; have HWB := Hh hwb; have HRA := Hh hra; have HRB := Hh hrb; clear hwa hwb hra hrb
 have d1 : ((la.length : Int) == 0) = false := beq_eq_false_iff_ne.2 om
 have d2 : ((lb.length : Int) == 0) = false := beq_eq_false_iff_ne.2 om
 have HM := OwnW.made w (la.length + lb.length)
 go_enter Tryz.func310, Tryz.ntmps310
 go_wp2
 go_loopw [27] (fun iv wr => TimesOut w w.heap.size la lb iv wr) (fun iv _ => la.length - (intOf iv).toNat)
 case atStart => exact ⟨0, _, Nat.zero_le _, rfl, by simp, Words.zeros _, HM, by
  rw [lo_zero, lo, show (List.replicate (la.length + lb.length) 0).take (0 + lb.length) = List.replicate (0 + lb.length) 0 by rw [List.take_replicate]; congr 1; omega, wval_zeros]; simp, (Within.refl w).alloc _⟩
 case round =>
  obtain ⟨i, o, hi, rfl, ho, hwo, hown, hval, hin⟩ := hrel
  have HV := Hh hval; have HO := Hh ho; have HWO := Hh hwo; clear hval ho hwo
  rcases Nat.lt_or_ge i la.length with hlt | hlt
  ·obtain ⟨ga, hga0, hga, hca⟩ := (HRA.out.of hin).cell hlt
   subst hga0
   obtain ⟨x, hxe⟩ : ∃ x, x = la.getD i 0 := ⟨_, rfl⟩
   have hx : x < 18446744073709551616 := by rw [hxe]; exact HWA.out.getD _
   rw [← hxe] at hca
   have HXE := Hh hxe; clear hxe
   go_wp2
   go_loopw [8, 34] (fun cv kv wr => TimesIn w w.heap.size lb o x i cv kv wr) (fun _ kv _ => lb.length - (intOf kv).toNat)
   case atStart => exact ⟨0, 0, o, Nat.zero_le _, by decide, rfl, rfl, rfl, HWO.out, hown, by simp [lo_zero], fun _ _ => rfl, hin⟩
   case round =>
    obtain ⟨k, c, o1, hk, hc, rfl, rfl, ho1, hwo1, hown1, hval1, hrest, hin1⟩ := hrel
    have HV1 := Hh hval1; have HO1 := Hh (ho1.trans HO.out); have HO2 := Hh ho1; have HWO1 := Hh hwo1; have HR := Hh hrest; clear hval1 ho1 hwo1 hrest
    rcases Nat.lt_or_ge k lb.length with hlk | hlk
    ·obtain ⟨gb, hgb0, hgb, hcb⟩ := (HRB.out.of hin1).cell hlk
     subst hgb0
     obtain ⟨y, hye⟩ : ∃ y, y = lb.getD k 0 := ⟨_, rfl⟩
     have hy : y < 18446744073709551616 := by rw [hye]; exact HWB.out.getD _
     rw [← hye] at hcb
     have HYE := Hh hye; clear hye
     have hco := hown1.cell (i := i + k) (by rw [HO1.out]; omega)
     have hfo := hown1.frozen (i + k)
     obtain ⟨z, hze⟩ : ∃ z, z = o1.getD (i + k) 0 := ⟨_, rfl⟩
     have hz : z < 18446744073709551616 := by rw [hze]; exact HWO1.out.getD _
     rw [← hze] at hco
     have HST := Hh (fun (u v q : Int) => TimesIn.step (x := x) (y := y) (z := z) u v q (by rw [HO1.out]; omega) hlk hc HO2.out HWO1.out hown1 HV1.out HR.out hin1 (Nat.le_refl _) hx HYE.out hy hze hz)
     clear hze
     have e4 : IntKind.i64.wrap ((i : Int) + k) = (i : Int) + k := IntWalk.i64_in _ om
     have e5 : ((i : Int) + k).toNat = i + k := by omega
     have CF := Hh (fun w => Pfold x y z c (x * y + z + c) hx hy hz hc rfl w)
     generalize x * y + z + c = p at CF HST
     go_wp2_with fail
     refine (CF.out _).mono ?_; rintro e1 w1 ⟨rfl, rfl⟩
     go_wp2
     go_roundw
     case rel => exact HST.out _ _ _ om om om
     case measure => simp [intOf]; omega
    ·obtain rfl : k = lb.length := by omega
     have hco := hown1.cell (i := i + lb.length) (by rw [HO1.out]; omega)
     have hfo := hown1.frozen (i + lb.length)
     have HCC := Hh hc
     go_wp2
     go_roundw
     case rel =>
      refine ⟨i + 1, o1.set (i + lb.length) c, by omega, by go_num, by rw [List.length_set]; exact HO1.out, HWO1.out.set _ _ HCC.out, ?_, ?_, hin1.setCell (Nat.le_refl _) _⟩
      ·have := hown1.set (i + lb.length) c (by rw [HO1.out]; omega)
       exact this
      ·rw [show i + 1 + lb.length = i + lb.length + 1 by omega, lo_set_succ _ _ _ (by rw [HO1.out]; omega), HV1.out, HV.out, lo_succ la, ← HXE.out, lo_all lb (Nat.le_refl _), Nat.add_mul, Nat.mul_assoc]
     case measure => simp [intOf]; omega
  ·obtain rfl : i = la.length := by omega
   have CT := Hh (Pnorm o (some ⟨w.heap.size, 0, none⟩) (la.length + lb.length) HWO.out (by rw [HO.out]; exact Nat.le_refl _) (by rw [HO.out]; omega) _ hown.at)
   rw [HO.out] at CT
   go_wp2_with fail
   refine (CT.out).mono ?_; rintro e1 w1 ⟨rfl, rfl⟩
   go_wp2
   go_ret
   refine retW_cut hown.at HWO.out (by rw [HO.out]; exact Nat.le_refl _) hin ?_
   rw [← lo_all o (Nat.le_of_eq HO.out), HV.out, lo_all _ (Nat.le_refl _)]
theorem Ptimes (a b : Nat) (A Bv : Option Addr) (ca cb : Nat) (ha : (dg a).length ≤ 700000) (hb : (dg b).length ≤ 700000) (w : World) (hra : RowAt w A (dg a)) (hrb : RowAt w Bv (dg b)) :
 Calls Tryz.prog 310 #[.slice A (dg a).length ca, .slice Bv (dg b).length cb] w (RetW w (a * b)) := by
 by_cases h : a = 0 ∨ b = 0
 ·have e : a * b = 0 := by rcases h with h | h <;> subst h <;> simp
  rw [e]
  exact Ptimes_nil _ _ A Bv ca cb (by rcases h with h | h <;> subst h <;> simp [dg_zero]) w
 ·have h1 : a ≠ 0 := fun e => h (.inl e)
  have h2 : b ≠ 0 := fun e => h (.inr e)
  have := Ptimes0 (dg a) (dg b) A Bv ca cb (words_dg a) (words_dg b) ha hb (dg_len_pos h1) (dg_len_pos h2) w hra hrb
  rw [wval_dg, wval_dg] at this
  exact this
end Go.Proofs.YtgkcpnidmfejeaaGreatDoor.P64
end
section
namespace Go.Proofs.YtgkcpnidmfejeaaGreatDoor.P64
open Go.RowKit
theorem repl_getD (n j : Nat) : (List.replicate n 0).getD j 0 = 0 := by
 rw [List.getD_eq_getElem?_getD, List.getElem?_replicate]
 by_cases h : j < n
 ·rw [if_pos h]; rfl
 ·rw [if_neg h]; rfl
def LeftRel (W : World) (g : Nat) (la : List Nat) (W0 S0 : Nat) (iv : Value) (wr : World) : Prop :=
 ∃ (k : Nat) (o : List Nat), k ≤ la.length ∧ iv = .int .i64 (k : Int) ∧ o.length = W0 + la.length + 1 ∧ Words o ∧ OwnW wr g o ∧ lo o (W0 + k + 1) = lo la k * 2 ^ S0 * 18446744073709551616 ^ W0 ∧ o.getD (W0 + k) 0 < 2 ^ S0 ∧ (∀ j, W0 + k < j → o.getD j 0 = 0) ∧ Within W wr
theorem low_lt {x S0 z : Nat} (hS : S0 < 64) (hz : z < 2 ^ S0) : z + x * 2 ^ S0 % 18446744073709551616 < 18446744073709551616 := by
 rw [left_low hS]
 have h1 : x % 2 ^ (64 - S0) < 2 ^ (64 - S0) := Nat.mod_lt _ (Nat.two_pow_pos _)
 have h2 : (x % 2 ^ (64 - S0) + 1) * 2 ^ S0 ≤ 2 ^ (64 - S0) * 2 ^ S0 := Nat.mul_le_mul_right _ h1
 rw [← Nat.pow_add, show 64 - S0 + S0 = 64 by omega, Nat.add_mul] at h2
 omega
theorem low_or {x S0 z : Nat} (hS : S0 < 64) (hz : z < 2 ^ S0) : bits .or .u64 (z : Int) ((x * 2 ^ S0 % 18446744073709551616 : Nat) : Int) = ((z + x * 2 ^ S0 % 18446744073709551616 : Nat) : Int) := by
 have h1 := low_lt (x := x) hS hz
 rw [u64_or_nat _ _ om om, Nat.or_comm, nat_join S0 _ _ (by rw [left_low hS, Nat.mul_mod_left]) hz, Nat.add_comm]
theorem LeftRel.step {W wr : World} {g : Nat} {la o : List Nat} {W0 S0 k x z : Nat} (u v q : Int) (hk : k < la.length) (hS : S0 < 64) (ho : o.length = W0 + la.length + 1) (hwo : Words o) (hown : OwnW wr g o)
 (hval : lo o (W0 + k + 1) = lo la k * 2 ^ S0 * 18446744073709551616 ^ W0) (hlow : z < 2 ^ S0) (hzero : ∀ j, W0 + k < j → o.getD j 0 = 0) (hin : Within W wr)
 (hx : x = la.getD k 0) (hz : z = o.getD (W0 + k) 0) (hx2 : x < 18446744073709551616) (hg : W.heap.size ≤ g) (hu : u = ((z + x * 2 ^ S0 % 18446744073709551616 : Nat) : Int)) (hv : v = ((x * 2 ^ S0 / 18446744073709551616 : Nat) : Int)) (hq : q = ((k + 1 : Nat) : Int)) :
 LeftRel W g la W0 S0 (.int .i64 q) ((wr.setCell ⟨g, W0 + k, none⟩ (.int .u64 u)).setCell ⟨g, W0 + k + 1, none⟩ (.int .u64 v)) := by
 subst hu hv hq
 have hh := left_high (m := x) (s := S0) hx2
 have h32 : 2 ^ S0 ≤ 18446744073709551616 := by rw [show (18446744073709551616 : Nat) = 2 ^ 64 from rfl]; exact Nat.pow_le_pow_right dc om
 have hl := low_lt (x := x) hS hlow
 generalize hL : x * 2 ^ S0 % 18446744073709551616 = L at *
 generalize hH : x * 2 ^ S0 / 18446744073709551616 = H at *
 have ho1 : (o.set (W0 + k) (z + L)).length = W0 + la.length + 1 := by rw [List.length_set]; exact ho
 refine ⟨k + 1, (o.set (W0 + k) (z + L)).set (W0 + k + 1) H, by omega, rfl, by rw [List.length_set]; exact ho1, (hwo.set _ _ hl).set _ _ om, (hown.set _ _ om).set _ _ om, ?_, ?_, ?_, (hin.setCell hg _).setCell hg _⟩
 ·rw [show W0 + (k + 1) + 1 = W0 + k + 1 + 1 by omega, lo_set_succ _ _ _ om, lo_set_succ _ _ _ om, lo_succ la, ← hx]
  rw [lo_succ, ← hz] at hval
  have := left_step (P := 18446744073709551616 ^ (W0 + k)) (t := x * 2 ^ S0) hval
  rw [hL, hH] at this
  rw [Nat.pow_succ, this, Nat.add_mul, Nat.add_mul, Nat.pow_add]
  congr 1
  rw [Nat.mul_comm (18446744073709551616 ^ W0), Nat.mul_assoc, Nat.mul_assoc, Nat.mul_assoc, Nat.mul_comm (18446744073709551616 ^ W0), Nat.mul_assoc]
 ·rw [show W0 + (k + 1) = W0 + k + 1 by omega, getD_set_eq _ _ _ om]; exact hh
 ·intro j hj
  rw [lset_ne _ _ _ _ om, lset_ne _ _ _ _ om]
  exact hzero j om
theorem Pleft_pos (la : List Nat) (A : Option Addr) (ca n W0 S0 : Nat) (hwa : Words la) (hla : la.length ≤ 500000) (h0 : 0 < la.length) (hn : n = 64 * W0 + S0) (hS : S0 < 64) (hW : W0 ≤ 500000) (w : World) (hra : RowAt w A la) :
 Calls Tryz.prog 306 #[.slice A la.length ca, .int .u64 (n : Int)] w (RetW w (wval la * 2 ^ n)) := by
 have hmk := run_make_row' (P := Tryz.prog) 227 25 (.int .u64 0) 8 kr infoU64 rfl .i64 .i64 (W0 + la.length + 1) om om
 rw [show ((W0 + la.length + 1 : Nat) : Int) = (W0 : Int) + (la.length : Int) + 1 by omega] at hmk
 have HWA := Hh hwa; have HRA := Hh hra; clear hwa hra
 have hq : (n : Int) / 64 = (W0 : Int) := by omega
 have hr : (n : Int) % 64 = (S0 : Int) := by omega
 have d0 : ((la.length : Int) == 0) = false := beq_eq_false_iff_ne.2 om
 have HN := Hh hn; clear hn
 have HM := OwnW.made w (W0 + la.length + 1)
 go_enter Tryz.func306, Tryz.ntmps306
 go_wp2
 go_loopw [26] (fun iv wr => LeftRel w w.heap.size la W0 S0 iv wr) (fun iv _ => la.length - (intOf iv).toNat)
 case atStart => exact ⟨0, _, Nat.zero_le _, rfl, by simp, Words.zeros _, HM, by
  rw [lo_zero, lo]
  rw [show (List.replicate (W0 + la.length + 1) 0).take (W0 + 0 + 1) = List.replicate (W0 + 0 + 1) 0 by rw [List.take_replicate]; congr 1; omega, wval_zeros]; simp, by
  rw [repl_getD]; exact Nat.two_pow_pos _, fun j _ => repl_getD _ _, (Within.refl w).alloc _⟩
 case round =>
  obtain ⟨k, o, hk, rfl, ho, hwo, hown, hval, hlow, hzero, hin⟩ := hrel
  have HV := Hh hval; have HO := Hh ho; have HWO := Hh hwo; have HZ := Hh hzero; clear hval ho hwo hzero
  rcases Nat.lt_or_ge k la.length with hlt | hlt
  ·obtain ⟨ga, rfl, hga, hca⟩ := (HRA.out.of hin).cell hlt
   obtain ⟨x, hxe⟩ : ∃ x, x = la.getD k 0 := ⟨_, rfl⟩
   have hx : x < 18446744073709551616 := by rw [hxe]; exact HWA.out.getD k
   rw [← hxe] at hca
   have HXE := Hh hxe; clear hxe
   obtain ⟨z, hze⟩ : ∃ z, z = o.getD (W0 + k) 0 := ⟨_, rfl⟩
   have hco := hown.cell (i := W0 + k) (by rw [HO.out]; omega)
   have hfo := hown.frozen (W0 + k)
   have hco1 := hown.cell (i := W0 + k + 1) (by rw [HO.out]; omega)
   have hfo1 := hown.frozen (W0 + k + 1)
   rw [← hze] at hco hlow
   have HZE := Hh hze; clear hze
   have gsh : IntKind.u64.wrap ((x : Int) * 2 ^ S0) = ((x * 2 ^ S0 % 18446744073709551616 : Nat) : Int) := by
    have e : (x : Int) * 2 ^ S0 = ((x * 2 ^ S0 : Nat) : Int) := by simp
    rw [e, IntKind.wrap_u64]; omega
   have gsw : IntKind.u64.wrap (64 - (S0 : Int)) = ((64 - S0 : Nat) : Int) := by rw [IntKind.wrap_u64]; omega
   have gsx : (64 - (S0 : Int)).toNat = 64 - S0 := by omega
   have gor := low_or (x := x) hS hlow
   have gdv : x * 2 ^ S0 / 18446744073709551616 = x / 2 ^ (64 - S0) := by
    rw [show (18446744073709551616 : Nat) = 2 ^ (64 - S0) * 2 ^ S0 by rw [← Nat.pow_add, show 64 - S0 + S0 = 64 by omega], Nat.mul_div_mul_right _ _ (Nat.two_pow_pos S0)]
   have hstep := fun (u v q : Int) => LeftRel.step (S0 := S0) (x := x) (z := z) u v q hlt hS HO.out HWO.out hown HV.out hlow HZ.out hin HXE.out HZE.out hx (Nat.le_refl _)
   rw [gdv] at hstep
   have HST := Hh hstep; clear hstep
   go_wp2
   go_roundw
   case rel => exact HST.out _ _ _ (by rw [show ((x : Int) * 2 ^ S0 % 18446744073709551616) = ((x * 2 ^ S0 % 18446744073709551616 : Nat) : Int) by simp]; exact gor) (by simp) om
   case measure => simp [intOf]; omega
  ·obtain rfl : k = la.length := by omega
   have CT := Hh (Pnorm o (some ⟨w.heap.size, 0, none⟩) (W0 + la.length + 1) HWO.out (by rw [HO.out]; exact Nat.le_refl _) (by rw [HO.out]; omega) _ hown.at)
   rw [HO.out] at CT
   go_wp2_with fail
   refine (CT.out).mono ?_; rintro e1 w1 ⟨rfl, rfl⟩
   go_wp2
   go_ret
   refine retW_cut hown.at HWO.out (by rw [HO.out]; exact Nat.le_refl _) hin ?_
   rw [← lo_all o (Nat.le_of_eq HO.out), HV.out, lo_all _ (Nat.le_refl _), HN.out, Nat.mul_assoc, show (18446744073709551616 : Nat) = 2 ^ 64 from rfl, ← Nat.pow_mul, ← Nat.pow_add, Nat.add_comm S0]
theorem Pleft_nil (A : Option Addr) (ca n : Nat) (w : World) : Calls Tryz.prog 306 #[.slice A 0 ca, .int .u64 (n : Int)] w (RetW w 0) := by
 go_enter Tryz.func306, Tryz.ntmps306
 exact zz52
theorem Pleft (a : Nat) (A : Option Addr) (ca n : Nat) (ha : (dg a).length ≤ 500000) (hn : n ≤ 16000000) (w : World) (hra : RowAt w A (dg a)) :
 Calls Tryz.prog 306 #[.slice A (dg a).length ca, .int .u64 (n : Int)] w (RetW w (a * 2 ^ n)) := by
 by_cases h : a = 0
 ·subst h
  rw [dg_zero, Nat.zero_mul]
  exact Pleft_nil A ca n w
 ·have := Pleft_pos (dg a) A ca n (n / 64) (n % 64) (words_dg a) ha (dg_len_pos h) om om om w hra
  rw [wval_dg] at this
  exact this
end Go.Proofs.YtgkcpnidmfejeaaGreatDoor.P64
end
section
namespace Go.Proofs.YtgkcpnidmfejeaaGreatDoor.P64
open Go.RowKit
theorem IntB.rd {w : World} {g : Nat} {v : Int} (h : IntB w g v) : ∃ A c, w.cell? ⟨g, 0, none⟩ = some (.bool (decide (v < 0))) ∧ w.cell? ⟨g, 1, none⟩ = some (.slice A (dg v.natAbs).length c) ∧ RowAt w A (dg v.natAbs) := by
 obtain ⟨A, c, h0, h1, _, hr⟩ := h.cells
 exact ⟨A, c, h0, h1, hr⟩
theorem sgv_self (v : Int) : sgv (decide (v < 0)) v.natAbs = v := by
 unfold sgv; by_cases h : v < 0
 ·rw [if_pos (decide_eq_true h)]; omega
 ·rw [decide_eq_false h, if_neg Bool.false_ne_true]; omega
theorem sgv_not (v : Int) : sgv (!decide (v < 0)) v.natAbs = -v := by
 unfold sgv; by_cases h : v < 0
 ·rw [decide_eq_true h, if_neg dc]; omega
 ·rw [decide_eq_false h, if_pos dc]; omega
theorem sgv_no (n : Nat) : sgv false n = n := rfl
theorem PutI.trans {W w : World} {z : Nat} {v : Int} {e : Ending} {w' : World} (h : Within W w) (k : PutI w z v e w') : PutI W z v e w' := ⟨k.1, k.2.1, grown_trans (grown_within z h) k.2.2⟩
theorem PutI_eq {W : World} {z : Nat} {v v2 : Int} {e : Ending} {w' : World} (h : PutI W z v e w') (k : v = v2) : PutI W z v2 e w' := k ▸ h
theorem dg_mul_len {a b n m : Nat} (ha : (dg a).length ≤ n) (hb : (dg b).length ≤ m) : (dg (a * b)).length ≤ n + m := by
 refine dg_len_le ?_
 have h1 := Nat.lt_of_lt_of_le (lt_of_dg a) (Nat.pow_le_pow_right dc ha)
 have h2 := Nat.lt_of_lt_of_le (lt_of_dg b) (Nat.pow_le_pow_right dc hb)
 rw [Nat.pow_add]
 exact Nat.mul_lt_mul_of_lt_of_le h1 (Nat.le_of_lt h2) (Nat.pow_pos dc)
theorem dg_shl_len {a n k : Nat} (ha : (dg a).length ≤ n) : (dg (a * 2 ^ (64 * k))).length ≤ n + k := by
 refine dg_len_le ?_
 have h1 := Nat.lt_of_lt_of_le (lt_of_dg a) (Nat.pow_le_pow_right dc ha)
 rw [Nat.pow_add, Nat.pow_mul]
 exact Nat.mul_lt_mul_of_pos_right h1 (Nat.pow_pos dc)
theorem dg_shl_le {a n j k : Nat} (ha : (dg a).length ≤ n) (hj : j ≤ 64 * k) : (dg (a * 2 ^ j)).length ≤ n + k :=
 Nat.le_trans (dg_len_mono (Nat.mul_le_mul_left _ (Nat.pow_le_pow_right dc hj))) (dg_shl_len ha)
theorem PsetUint64 (z n : Nat) (hn : n < 18446744073709551616) (w : World) (hz : IntTy w z) : Calls Tryz.prog 235 #[.pointer (some ⟨z, 0, none⟩), .int .u64 (n : Int)] w (PutI w z n) := by
 have HZ := Hh hz; clear hz
 have HN := Hh hn; clear hn
 go_enter Tryz.func235, Tryz.ntmps235
 go_wp2_with fail
 refine (Pword n HN.out w).mono ?_; rintro e1 w1 ⟨A1, c1, rfl, hc1, hr1, hb1⟩
 go_wp2_with fail
 refine (Pmade z false n A1 c1 hc1 w1 hr1 (HZ.out.of hb1)).mono ?_; rintro e2 w2 ⟨rfl, hI, hG⟩
 go_wp2
 go_ret
 rw [sgv_no] at hI
 exact ⟨rfl, hI, grown_trans (grown_within z hb1) hG⟩
theorem zz38 {p : Prop} (h : p := by
 rintro e3 w3 ⟨rfl, hI, hG⟩
 refine hK _ _ ab ?_
 clear hK K
 try simp only [pu]
 refine sched_one rfl rfl (fun K hK => ?_)
 go_simp
 refine hK _ _ ab ?_
 clear hK K
 try simp only [pu]
 refine sched_nil ?_
 go_wp2
 go_ret
 exact ⟨rfl, hI, grown_trans (grown_within z hb2) hG⟩) : p := h
theorem Pmul0 (z x y : Nat) (sa sb : Bool) (na nb : Nat) (A Bv : Option Addr) (ca cb : Nat) (ha : (dg na).length ≤ 700000) (hb : (dg nb).length ≤ 700000) (w : World) (hz : IntTy w z) (a0 : w.cell? ⟨x, 0, none⟩ = some (.bool sa)) (a1 : w.cell? ⟨x, 1, none⟩ = some (.slice A (dg na).length ca)) (hra : RowAt w A (dg na)) (b0 : w.cell? ⟨y, 0, none⟩ = some (.bool sb)) (b1 : w.cell? ⟨y, 1, none⟩ = some (.slice Bv (dg nb).length cb)) (hrb : RowAt w Bv (dg nb)) : Calls Tryz.prog 240 #[.pointer (some ⟨z, 0, none⟩), .pointer (some ⟨x, 0, none⟩), .pointer (some ⟨y, 0, none⟩)] w (PutI w z (sgv (!sa == sb) (na * nb))) := by
 have HZ := Hh hz; have HRA := Hh hra; have HRB := Hh hrb; clear hz hra hrb
 have hlx := World.block_lt_of_cell? w _ a0; have hly := World.block_lt_of_cell? w _ b0
 go_enter Tryz.func240, Tryz.ntmps240
 go_wp2
 refine wp_region_sched (fun W => W.cell? ⟨x, 0, none⟩ = some (.bool sa) ∧ W.cell? ⟨y, 0, none⟩ = some (.bool sb) ∧ W.cell? ⟨x, 1, none⟩ = some (.slice A (dg na).length ca) ∧ W.cell? ⟨y, 1, none⟩ = some (.slice Bv (dg nb).length cb)) 19 [(0, true), (1, true), (2, true), (3, true), (4, true), (5, true), (6, true), (7, true), (8, true), (9, true), (10, true), (11, true), (12, true), (13, true), (14, true), (15, true), (16, true), (17, true), (18, false), (19, false), (20, false)] kr kr ⟨a0, b0, a1, b1⟩ ?_
 intro hS
 repeat
  apply sched_firm rfl rfl hS
  ·intro wq hq
   have hq0 := hq.1; have hq1 := hq.2.1; have hq2 := hq.2.2.1; have hq3 := hq.2.2.2
   clear hq
   go_simp
   rfl
  try simp only [pu]
 refine sched_one rfl rfl (fun K hK => ?_)
 go_simp
 refine (Ptimes na nb A Bv ca cb ha hb w.drew (RowAt.drew HRA.out) (RowAt.drew HRB.out)).mono ?_
 rintro e2 w2 ⟨A', c', rfl, hc', hr', hb'⟩
 have hb2 : Within w w2 := (Within.refl w).drew.trans hb'
 refine hK _ _ (fun h => ⟨(hb2.cells _ _ hlx).trans a0, (hb2.cells _ _ hly).trans b0, (hb2.cells _ _ hlx).trans a1, (hb2.cells _ _ hly).trans b1⟩) ?_
 clear hK K
 try simp only [pu]
 refine sched_one rfl rfl (fun K hK => ?_)
 go_simp
 refine (Pmade z _ (na * nb) A' c' hc' w2 hr' (HZ.out.of hb2)).mono ?_
 exact zz38
theorem Pmul (z x y : Nat) (a b : Int) (ha : (dg a.natAbs).length ≤ 700000) (hb : (dg b.natAbs).length ≤ 700000) (w : World) (hz : IntTy w z) (hx : IntB w x a) (hy : IntB w y b) : Calls Tryz.prog 240 #[.pointer (some ⟨z, 0, none⟩), .pointer (some ⟨x, 0, none⟩), .pointer (some ⟨y, 0, none⟩)] w (PutI w z (a * b)) := by
 obtain ⟨A, ca, a0, a1, hra⟩ := hx.rd
 obtain ⟨Bv, cb, b0, b1, hrb⟩ := hy.rd
 refine Calls.mono (Pmul0 z x y _ _ _ _ A Bv ca cb ha hb w hz a0 a1 hra b0 b1 hrb) (fun _ _ h => PutI_eq h ?_)
 unfold sgv
 rw [← Int.natAbs_mul]
 by_cases ha0 : a < 0 <;> by_cases hb0 : b < 0
 ·have := Int.mul_pos_of_neg_of_neg ha0 hb0; simp [ha0, hb0]; omega
 ·have := Int.mul_nonpos_of_nonpos_of_nonneg (Int.le_of_lt ha0) (Int.not_lt.1 hb0); simp [ha0, hb0]; omega
 ·have := Int.mul_nonpos_of_nonneg_of_nonpos (Int.not_lt.1 ha0) (Int.le_of_lt hb0); simp [ha0, hb0]; omega
 ·have := Int.mul_nonneg (Int.not_lt.1 ha0) (Int.not_lt.1 hb0); simp [ha0, hb0]; omega
theorem zz53 {p : Prop} (h : p := by
 intro wq hq
 have hq0 := hq.1; have hq1 := hq.2
 clear hq
 go_simp
 rfl) : p := h
theorem Plsh0 (z x n : Nat) (sa : Bool) (na : Nat) (A : Option Addr) (ca : Nat) (ha : (dg na).length ≤ 400000) (hn : n ≤ 16000000) (w : World) (hz : IntTy w z) (a0 : w.cell? ⟨x, 0, none⟩ = some (.bool sa)) (a1 : w.cell? ⟨x, 1, none⟩ = some (.slice A (dg na).length ca)) (hra : RowAt w A (dg na)) : Calls Tryz.prog 236 #[.pointer (some ⟨z, 0, none⟩), .pointer (some ⟨x, 0, none⟩), .int .u64 (n : Int)] w (PutI w z (sgv sa (na * 2 ^ n))) := by
 have HZ := Hh hz; have HRA := Hh hra; clear hz hra
 have hlx := World.block_lt_of_cell? w _ a0
 go_enter Tryz.func236, Tryz.ntmps236
 go_wp2
 refine wp_region_sched (fun W => W.cell? ⟨x, 0, none⟩ = some (.bool sa) ∧ W.cell? ⟨x, 1, none⟩ = some (.slice A (dg na).length ca)) 11 [(0, true), (1, true), (2, true), (3, true), (4, true), (5, true), (6, true), (7, true), (8, true), (9, true), (10, false), (11, false), (12, false)] kr kr ⟨a0, a1⟩ ?_
 intro hS
 repeat
  apply sched_firm rfl rfl hS
  ·exact zz53
  try simp only [pu]
 refine sched_one rfl rfl (fun K hK => ?_)
 go_simp
 refine (Pleft na A ca n om hn w.drew (RowAt.drew HRA.out)).mono ?_
 rintro e2 w2 ⟨A', c', rfl, hc', hr', hb'⟩
 have hb2 : Within w w2 := (Within.refl w).drew.trans hb'
 refine hK _ _ (fun h => ⟨(hb2.cells _ _ hlx).trans a0, (hb2.cells _ _ hlx).trans a1⟩) ?_
 clear hK K
 try simp only [pu]
 refine sched_one rfl rfl (fun K hK => ?_)
 go_simp
 refine (Pmade z _ (na * 2 ^ n) A' c' hc' w2 hr' (HZ.out.of hb2)).mono ?_
 exact zz38
theorem Plsh (z x n : Nat) (a : Int) (ha : (dg a.natAbs).length ≤ 400000) (hn : n ≤ 16000000) (w : World) (hz : IntTy w z) (hx : IntB w x a) : Calls Tryz.prog 236 #[.pointer (some ⟨z, 0, none⟩), .pointer (some ⟨x, 0, none⟩), .int .u64 (n : Int)] w (PutI w z (a * 2 ^ n)) := by
 obtain ⟨A, ca, a0, a1, hra⟩ := hx.rd
 refine Calls.mono (Plsh0 z x n _ _ A ca ha hn w hz a0 a1 hra) (fun _ _ h => PutI_eq h ?_)
 have e : ((a.natAbs * 2 ^ n : Nat) : Int) = (a.natAbs : Int) * 2 ^ n := by simp
 unfold sgv
 by_cases ha0 : a < 0
 ·rw [if_pos (decide_eq_true ha0), e, ← Int.neg_mul]; congr 1; omega
 ·rw [decide_eq_false ha0, if_neg dc, e]; congr 1; omega
theorem Pneg0 (z x : Nat) (sa : Bool) (na : Nat) (A : Option Addr) (ca : Nat) (ha : (dg na).length ≤ 400000) (w : World) (hz : IntTy w z) (a0 : w.cell? ⟨x, 0, none⟩ = some (.bool sa)) (a1 : w.cell? ⟨x, 1, none⟩ = some (.slice A (dg na).length ca)) (hra : RowAt w A (dg na)) : Calls Tryz.prog 175 #[.pointer (some ⟨z, 0, none⟩), .pointer (some ⟨x, 0, none⟩)] w (PutI w z (sgv (!sa) na)) := by
 have HZ := Hh hz; have HRA := Hh hra; clear hz hra
 have hlx := World.block_lt_of_cell? w _ a0
 go_enter Tryz.func175, Tryz.ntmps175
 go_wp2
 refine wp_region_sched (fun W => W.cell? ⟨x, 0, none⟩ = some (.bool sa) ∧ W.cell? ⟨x, 1, none⟩ = some (.slice A (dg na).length ca)) 11 [(0, true), (1, true), (2, true), (3, true), (4, true), (5, true), (6, true), (7, true), (8, true), (9, true), (10, false), (11, false), (12, false)] kr kr ⟨a0, a1⟩ ?_
 intro hS
 repeat
  apply sched_firm rfl rfl hS
  ·exact zz53
  try simp only [pu]
 refine sched_one rfl rfl (fun K hK => ?_)
 go_simp
 refine (Pclone na A ca om w.drew (RowAt.drew HRA.out)).mono ?_
 rintro e2 w2 ⟨A', c', rfl, hc', hr', hb'⟩
 have hb2 : Within w w2 := (Within.refl w).drew.trans hb'
 refine hK _ _ (fun h => ⟨(hb2.cells _ _ hlx).trans a0, (hb2.cells _ _ hlx).trans a1⟩) ?_
 clear hK K
 try simp only [pu]
 refine sched_one rfl rfl (fun K hK => ?_)
 go_simp
 refine (Pmade z _ na A' c' hc' w2 hr' (HZ.out.of hb2)).mono ?_
 exact zz38
theorem Pneg (z x : Nat) (v : Int) (hl : (dg v.natAbs).length ≤ 400000) (w : World) (hz : IntTy w z) (hx : IntB w x v) : Calls Tryz.prog 175 #[.pointer (some ⟨z, 0, none⟩), .pointer (some ⟨x, 0, none⟩)] w (PutI w z (-v)) := by
 obtain ⟨A, c, c0, c1, hr⟩ := hx.rd
 have := Pneg0 z x _ _ A c hl w hz c0 c1 hr
 rw [sgv_not] at this
 exact this
def cmpI (a b : Int) : Int := if a < b then -1 else if b < a then 1 else 0
theorem cmpN_range (a b : Nat) : -1 ≤ cmpN a b ∧ cmpN a b ≤ 1 := by unfold cmpN; split <;> (try split) <;> omega
theorem zz59 {p : Prop} (h : p := by
 rw [← hcm] at hr ⊢
 have HCM := Hh hcm; clear hcm
 have hb2 : Within w w2 := hb1.drew.trans hb2'
 refine hK _ _ ab ?_
 clear hK K
 try simp only [pu]
 refine sched_one rfl rfl (fun K hK => ?_)
 go_simp
 refine hK _ _ ab ?_
 clear hK K
 try simp only [pu]
 refine sched_nil ?_
 have a0'' := (hb2.cells _ 0 hlx).trans a0
 go_wp2
 go_ret
 exact ⟨ret_int (by rw [HCM.out]), hb2⟩) : p := h
theorem Pcmp_00 (x y : Nat) (na nb : Nat) (A Bv : Option Addr) (ca cb : Nat) (ha : (dg na).length ≤ 1000000) (hb : (dg nb).length ≤ 1000000) (w : World) (a0 : w.cell? ⟨x, 0, none⟩ = some (.bool false)) (a1 : w.cell? ⟨x, 1, none⟩ = some (.slice A (dg na).length ca)) (hra : RowAt w A (dg na)) (b0 : w.cell? ⟨y, 0, none⟩ = some (.bool false)) (b1 : w.cell? ⟨y, 1, none⟩ = some (.slice Bv (dg nb).length cb)) (hrb : RowAt w Bv (dg nb)) : Calls Tryz.prog 379 #[.pointer (some ⟨x, 0, none⟩), .pointer (some ⟨y, 0, none⟩)] w (fun e w' => e = .returned (.int .i64 (cmpN na nb)) ∧ Within w w') := by
 have HRA := Hh hra; have HRB := Hh hrb; clear hra hrb
 have hlx := World.block_lt_of_cell? w _ a0; have hly := World.block_lt_of_cell? w _ b0
 go_enter Tryz.func379, Tryz.ntmps379
 go_wp2
 go_quiet (fail)
 go_wp2
 obtain ⟨w1, hw1⟩ : ∃ w1, w1 = w.drewN nq := ⟨_, rfl⟩
 rw [← hw1]
 have hb1 : Within w w1 := by rw [hw1]; exact (Within.refl w).drewN _
 have a0' := (hb1.cells _ 0 hlx).trans a0; have a1' := (hb1.cells _ 1 hlx).trans a1; have b1' := (hb1.cells _ 1 hly).trans b1
 clear hw1
 refine wp_region_sched (fun W => W.cell? ⟨x, 1, none⟩ = some (.slice A (dg na).length ca) ∧ W.cell? ⟨y, 1, none⟩ = some (.slice Bv (dg nb).length cb)) 8 [(0, true), (1, true), (2, true), (3, true), (4, true), (5, true), (6, true), (7, true), (8, false), (9, false)] kr kr ⟨a1', b1'⟩ ?_
 intro hS
 repeat
  apply sched_firm rfl rfl hS
  ·exact zz53
  try simp only [pu]
 refine sched_one rfl rfl (fun K hK => ?_)
 go_simp
 refine (Pcompare na nb A Bv ca cb om om w1.drew (RowAt.drew (HRA.out.of hb1)) (RowAt.drew (HRB.out.of hb1))).mono ?_
 rintro e1 w2 ⟨rfl, hb2'⟩
 obtain ⟨cm, hcm⟩ : ∃ cm, cm = cmpN na nb := ⟨_, rfl⟩
 have hr := cmpN_range na nb
 exact zz59
theorem zz106 {p : Prop} (h : p := by
 clear hra hrb ha hb
 go_enter Tryz.func379, Tryz.ntmps379
 go_wp2
 go_quiet (fail)
 go_wp2
 go_ret
 exact ⟨rfl, (Within.refl w).drewN _⟩) : p := h
theorem Pcmp_01 (x y : Nat) (na nb : Nat) (A Bv : Option Addr) (ca cb : Nat) (ha : (dg na).length ≤ 1000000) (hb : (dg nb).length ≤ 1000000) (w : World) (a0 : w.cell? ⟨x, 0, none⟩ = some (.bool false)) (a1 : w.cell? ⟨x, 1, none⟩ = some (.slice A (dg na).length ca)) (hra : RowAt w A (dg na)) (b0 : w.cell? ⟨y, 0, none⟩ = some (.bool true)) (b1 : w.cell? ⟨y, 1, none⟩ = some (.slice Bv (dg nb).length cb)) (hrb : RowAt w Bv (dg nb)) : Calls Tryz.prog 379 #[.pointer (some ⟨x, 0, none⟩), .pointer (some ⟨y, 0, none⟩)] w (fun e w' => e = .returned (.int .i64 (1)) ∧ Within w w') := by
 exact zz106
theorem Pcmp_10 (x y : Nat) (na nb : Nat) (A Bv : Option Addr) (ca cb : Nat) (ha : (dg na).length ≤ 1000000) (hb : (dg nb).length ≤ 1000000) (w : World) (a0 : w.cell? ⟨x, 0, none⟩ = some (.bool true)) (a1 : w.cell? ⟨x, 1, none⟩ = some (.slice A (dg na).length ca)) (hra : RowAt w A (dg na)) (b0 : w.cell? ⟨y, 0, none⟩ = some (.bool false)) (b1 : w.cell? ⟨y, 1, none⟩ = some (.slice Bv (dg nb).length cb)) (hrb : RowAt w Bv (dg nb)) : Calls Tryz.prog 379 #[.pointer (some ⟨x, 0, none⟩), .pointer (some ⟨y, 0, none⟩)] w (fun e w' => e = .returned (.int .i64 (-1)) ∧ Within w w') := by
 exact zz106
theorem Pcmp_11 (x y : Nat) (na nb : Nat) (A Bv : Option Addr) (ca cb : Nat) (ha : (dg na).length ≤ 1000000) (hb : (dg nb).length ≤ 1000000) (w : World) (a0 : w.cell? ⟨x, 0, none⟩ = some (.bool true)) (a1 : w.cell? ⟨x, 1, none⟩ = some (.slice A (dg na).length ca)) (hra : RowAt w A (dg na)) (b0 : w.cell? ⟨y, 0, none⟩ = some (.bool true)) (b1 : w.cell? ⟨y, 1, none⟩ = some (.slice Bv (dg nb).length cb)) (hrb : RowAt w Bv (dg nb)) : Calls Tryz.prog 379 #[.pointer (some ⟨x, 0, none⟩), .pointer (some ⟨y, 0, none⟩)] w (fun e w' => e = .returned (.int .i64 (cmpN nb na)) ∧ Within w w') := by
 have HRA := Hh hra; have HRB := Hh hrb; clear hra hrb
 have hlx := World.block_lt_of_cell? w _ a0; have hly := World.block_lt_of_cell? w _ b0
 go_enter Tryz.func379, Tryz.ntmps379
 go_wp2
 go_quiet (fail)
 go_wp2
 obtain ⟨w1, hw1⟩ : ∃ w1, w1 = w.drewN nq := ⟨_, rfl⟩
 rw [← hw1]
 have hb1 : Within w w1 := by rw [hw1]; exact (Within.refl w).drewN _
 have a0' := (hb1.cells _ 0 hlx).trans a0; have a1' := (hb1.cells _ 1 hlx).trans a1; have b1' := (hb1.cells _ 1 hly).trans b1
 clear hw1
 refine wp_region_sched (fun W => W.cell? ⟨x, 1, none⟩ = some (.slice A (dg na).length ca) ∧ W.cell? ⟨y, 1, none⟩ = some (.slice Bv (dg nb).length cb)) 8 [(0, true), (1, true), (2, true), (3, true), (4, true), (5, true), (6, true), (7, true), (8, false), (9, false)] kr kr ⟨a1', b1'⟩ ?_
 intro hS
 repeat
  apply sched_firm rfl rfl hS
  ·exact zz53
  try simp only [pu]
 refine sched_one rfl rfl (fun K hK => ?_)
 go_simp
 refine (Pcompare nb na Bv A cb ca om om w1.drew (RowAt.drew (HRB.out.of hb1)) (RowAt.drew (HRA.out.of hb1))).mono ?_
 rintro e1 w2 ⟨rfl, hb2'⟩
 obtain ⟨cm, hcm⟩ : ∃ cm, cm = cmpN nb na := ⟨_, rfl⟩
 have hr := cmpN_range nb na
 exact zz59
theorem Pcmp (x y : Nat) (a b : Int) (ha : (dg a.natAbs).length ≤ 1000000) (hb : (dg b.natAbs).length ≤ 1000000) (w : World) (hx : IntB w x a) (hy : IntB w y b) : Calls Tryz.prog 379 #[.pointer (some ⟨x, 0, none⟩), .pointer (some ⟨y, 0, none⟩)] w (fun e w' => e = .returned (.int .i64 (cmpI a b)) ∧ Within w w') := by
 obtain ⟨A, ca, a0, a1, hra⟩ := hx.rd
 obtain ⟨Bv, cb, b0, b1, hrb⟩ := hy.rd
 by_cases ha0 : a < 0 <;> by_cases hb0 : b < 0
 ·rw [decide_eq_true ha0] at a0; rw [decide_eq_true hb0] at b0
  refine (Pcmp_11 x y _ _ A Bv ca cb ha hb w a0 a1 hra b0 b1 hrb).mono fun e w' h => ⟨h.1.trans (ret_int ?_), h.2⟩
  unfold cmpI cmpN; repeat' split
  all_goals omega
 ·rw [decide_eq_true ha0] at a0; rw [decide_eq_false hb0] at b0
  refine (Pcmp_10 x y _ _ A Bv ca cb ha hb w a0 a1 hra b0 b1 hrb).mono fun e w' h => ⟨h.1.trans (ret_int ?_), h.2⟩
  unfold cmpI; rw [if_pos om]
 ·rw [decide_eq_false ha0] at a0; rw [decide_eq_true hb0] at b0
  refine (Pcmp_01 x y _ _ A Bv ca cb ha hb w a0 a1 hra b0 b1 hrb).mono fun e w' h => ⟨h.1.trans (ret_int ?_), h.2⟩
  unfold cmpI; rw [if_neg om, if_pos om]
 ·rw [decide_eq_false ha0] at a0; rw [decide_eq_false hb0] at b0
  refine (Pcmp_00 x y _ _ A Bv ca cb ha hb w a0 a1 hra b0 b1 hrb).mono fun e w' h => ⟨h.1.trans (ret_int ?_), h.2⟩
  unfold cmpI cmpN; repeat' split
  all_goals omega
end Go.Proofs.YtgkcpnidmfejeaaGreatDoor.P64
end
section
namespace Go.Proofs.YtgkcpnidmfejeaaGreatDoor.P64
open Go.RowKit
theorem dg_add_len {a b k : Nat} (ha : (dg a).length ≤ k) (hb : (dg b).length ≤ k) : (dg (a + b)).length ≤ k + 1 := by
 refine dg_len_le ?_
 have h1 := Nat.lt_of_lt_of_le (lt_of_dg a) (Nat.pow_le_pow_right dc ha)
 have h2 := Nat.lt_of_lt_of_le (lt_of_dg b) (Nat.pow_le_pow_right dc hb)
 rw [Nat.pow_succ]; omega
theorem zz84 {p : Prop} (h : p := by
 go_wp2
 go_ret
 exact ⟨rfl, hI, grown_trans (grown_within z hb1) hG⟩) : p := h
theorem Pplus_same (z x : Nat) (sa : Bool) (n m : Nat) (A Bv : Option Addr) (ca cb : Nat) (hn : (dg n).length ≤ 1500000) (hm : (dg m).length ≤ 1500000) (w : World) (hz : IntTy w z) (a0 : w.cell? ⟨x, 0, none⟩ = some (.bool sa)) (a1 : w.cell? ⟨x, 1, none⟩ = some (.slice A (dg n).length ca)) (hra : RowAt w A (dg n)) (hrb : RowAt w Bv (dg m)) :
 Calls Tryz.prog 319 #[.pointer (some ⟨z, 0, none⟩), .pointer (some ⟨x, 0, none⟩), .bool sa, .slice Bv (dg m).length cb] w (PutI w z (sgv sa (n + m))) := by
 have HZ := Hh hz; have HRA := Hh hra; have HRB := Hh hrb; clear hz hra hrb
 have hs : (sa == sa) = true := beq_self_eq_true _
 go_enter Tryz.func319, Tryz.ntmps319
 go_wp2_with fail
 refine (Psum n m A Bv ca cb hn hm w HRA.out HRB.out).mono ?_; rintro e1 w1 ⟨A1, c1, rfl, hc1, hr1, hb1⟩
 go_wp2_with fail
 refine (Pmade z sa (n + m) A1 c1 hc1 w1 hr1 (HZ.out.of hb1)).mono ?_; rintro e2 w2 ⟨rfl, hI, hG⟩
 exact zz84
theorem Pplus_ge (z x : Nat) (sa sb : Bool) (n m : Nat) (A Bv : Option Addr) (ca cb : Nat) (hs : (sa == sb) = false) (hnm : m ≤ n) (hn : (dg n).length ≤ 1000000) (hm : (dg m).length ≤ 1000000) (w : World) (hz : IntTy w z) (a0 : w.cell? ⟨x, 0, none⟩ = some (.bool sa)) (a1 : w.cell? ⟨x, 1, none⟩ = some (.slice A (dg n).length ca)) (hra : RowAt w A (dg n)) (hrb : RowAt w Bv (dg m)) :
 Calls Tryz.prog 319 #[.pointer (some ⟨z, 0, none⟩), .pointer (some ⟨x, 0, none⟩), .bool sb, .slice Bv (dg m).length cb] w (PutI w z (sgv sa (n - m))) := by
 have HZ := Hh hz; have HRA := Hh hra; have HRB := Hh hrb; clear hz hra hrb
 have hlx := World.block_lt_of_cell? w _ a0
 have CC := Hh (Pcompare n m A Bv ca cb om om w HRA.out HRB.out)
 obtain ⟨cm, hcm⟩ : ∃ cm, cm = cmpN n m := ⟨_, rfl⟩
 have hge : decide (cm ≥ 0) = true := decide_eq_true (by rw [hcm]; unfold cmpN; rw [if_neg om]; split <;> omega)
 rw [← hcm] at CC
 clear hcm
 have HNM := Hh hnm; clear hnm
 go_enter Tryz.func319, Tryz.ntmps319
 go_wp2_with fail
 refine CC.out.mono ?_; rintro e1 w1 ⟨rfl, hb1⟩
 have a0' := (hb1.cells _ 0 hlx).trans a0; have a1' := (hb1.cells _ 1 hlx).trans a1
 go_wp2
 refine wp_region_sched (fun W => W.cell? ⟨x, 0, none⟩ = some (.bool sa) ∧ W.cell? ⟨x, 1, none⟩ = some (.slice A (dg n).length ca)) 11 [(0, true), (1, true), (2, true), (3, true), (4, true), (5, true), (6, true), (7, true), (8, true), (9, true), (10, false), (11, false), (12, false)] kr kr ⟨a0', a1'⟩ ?_
 intro hS
 repeat
  apply sched_firm rfl rfl hS
  ·exact zz53
  try simp only [pu]
 refine sched_one rfl rfl (fun K hK => ?_)
 go_simp
 refine (Pless n m A Bv ca cb om HNM.out w1.drew (RowAt.drew (HRA.out.of hb1)) (RowAt.drew (HRB.out.of hb1))).mono ?_
 rintro e2 w2 ⟨A', c', rfl, hc', hr', hb'⟩
 have hb2 : Within w w2 := hb1.drew.trans hb'
 refine hK _ _ (fun h => ⟨(hb2.cells _ _ hlx).trans a0, (hb2.cells _ _ hlx).trans a1⟩) ?_
 clear hK K
 try simp only [pu]
 refine sched_one rfl rfl (fun K hK => ?_)
 go_simp
 refine (Pmade z _ (n - m) A' c' hc' w2 hr' (HZ.out.of hb2)).mono ?_
 exact zz38
theorem Pplus_lt (z x : Nat) (sa sb : Bool) (n m : Nat) (A Bv : Option Addr) (ca cb : Nat) (hs : (sa == sb) = false) (hnm : n < m) (hn : (dg n).length ≤ 1000000) (hm : (dg m).length ≤ 1000000) (w : World) (hz : IntTy w z) (a0 : w.cell? ⟨x, 0, none⟩ = some (.bool sa)) (a1 : w.cell? ⟨x, 1, none⟩ = some (.slice A (dg n).length ca)) (hra : RowAt w A (dg n)) (hrb : RowAt w Bv (dg m)) :
 Calls Tryz.prog 319 #[.pointer (some ⟨z, 0, none⟩), .pointer (some ⟨x, 0, none⟩), .bool sb, .slice Bv (dg m).length cb] w (PutI w z (sgv sb (m - n))) := by
 have HZ := Hh hz; have HRA := Hh hra; have HRB := Hh hrb; clear hz hra hrb
 have hlx := World.block_lt_of_cell? w _ a0
 have CC := Hh (Pcompare n m A Bv ca cb om om w HRA.out HRB.out)
 rw [cmpN_lt hnm] at CC
 have HNM := Hh hnm; clear hnm
 go_enter Tryz.func319, Tryz.ntmps319
 go_wp2_with fail
 refine CC.out.mono ?_; rintro e1 w1 ⟨rfl, hb1⟩
 have a0' := (hb1.cells _ 0 hlx).trans a0; have a1' := (hb1.cells _ 1 hlx).trans a1
 go_wp2_with fail
 refine (Pless m n Bv A cb ca om (Nat.le_of_lt HNM.out) w1 (HRB.out.of hb1) (HRA.out.of hb1)).mono ?_
 rintro e2 w2 ⟨A', c', rfl, hc', hr', hb'⟩
 have hb2 : Within w w2 := hb1.trans hb'
 go_wp2_with fail
 refine (Pmade z sb (m - n) A' c' hc' w2 hr' (HZ.out.of hb2)).mono ?_
 rintro e3 w3 ⟨rfl, hI, hG⟩
 go_wp2
 go_ret
 exact ⟨rfl, hI, grown_trans (grown_within z hb2) hG⟩
theorem Pplus (z x : Nat) (v : Int) (neg : Bool) (m : Nat) (Bv : Option Addr) (cb : Nat) (hn : (dg v.natAbs).length ≤ 1000000) (hm : (dg m).length ≤ 1000000) (w : World) (hz : IntTy w z) (hx : IntB w x v) (hrb : RowAt w Bv (dg m)) :
 Calls Tryz.prog 319 #[.pointer (some ⟨z, 0, none⟩), .pointer (some ⟨x, 0, none⟩), .bool neg, .slice Bv (dg m).length cb] w (PutI w z (v + sgv neg m)) := by
 obtain ⟨A, ca, a0, a1, hra⟩ := hx.rd
 by_cases hs : decide (v < 0) = neg
 ·subst hs
  refine Calls.mono (Pplus_same z x _ _ m A Bv ca cb om om w hz a0 a1 hra hrb) (fun _ _ h => PutI_eq h ?_)
  unfold sgv
  by_cases h0 : v < 0
  ·rw [if_pos (decide_eq_true h0), if_pos (decide_eq_true h0)]; omega
  ·rw [decide_eq_false h0, if_neg dc, if_neg dc]; omega
 ·have hs' : (decide (v < 0) == neg) = false := by simpa using hs
  rcases Nat.lt_or_ge v.natAbs m with h | h
  ·refine Calls.mono (Pplus_lt z x _ neg _ m A Bv ca cb hs' h hn hm w hz a0 a1 hra hrb) (fun _ _ h2 => PutI_eq h2 ?_)
   unfold sgv
   by_cases h0 : v < 0
   ·rw [decide_eq_true h0] at hs
    cases neg
    ·rw [if_neg dc, if_neg dc]; omega
    ·exact absurd rfl hs
   ·rw [decide_eq_false h0] at hs
    cases neg
    ·exact absurd rfl hs
    ·rw [if_pos rfl, if_pos rfl]; omega
  ·refine Calls.mono (Pplus_ge z x _ neg _ m A Bv ca cb hs' h hn hm w hz a0 a1 hra hrb) (fun _ _ h2 => PutI_eq h2 ?_)
   unfold sgv
   by_cases h0 : v < 0
   ·rw [decide_eq_true h0] at hs ⊢
    cases neg
    ·rw [if_pos rfl, if_neg dc]; omega
    ·exact absurd rfl hs
   ·rw [decide_eq_false h0] at hs ⊢
    cases neg
    ·exact absurd rfl hs
    ·rw [if_neg dc, if_pos rfl]; omega
theorem Psub0 (z x y : Nat) (v : Int) (sb : Bool) (m : Nat) (Bv : Option Addr) (cb : Nat) (hn : (dg v.natAbs).length ≤ 1000000) (hm : (dg m).length ≤ 1000000) (w : World) (hz : IntTy w z) (hx : IntB w x v) (b0 : w.cell? ⟨y, 0, none⟩ = some (.bool sb)) (b1 : w.cell? ⟨y, 1, none⟩ = some (.slice Bv (dg m).length cb)) (hrb : RowAt w Bv (dg m)) :
 Calls Tryz.prog 378 #[.pointer (some ⟨z, 0, none⟩), .pointer (some ⟨x, 0, none⟩), .pointer (some ⟨y, 0, none⟩)] w (PutI w z (v + sgv (!sb) m)) := by
 have HZ := Hh hz; have HX := Hh hx; have HRB := Hh hrb; clear hz hx hrb
 have hly := World.block_lt_of_cell? w _ b0
 go_enter Tryz.func378, Tryz.ntmps378
 go_wp2
 refine wp_region_sched (fun W => W.cell? ⟨y, 0, none⟩ = some (.bool sb) ∧ W.cell? ⟨y, 1, none⟩ = some (.slice Bv (dg m).length cb)) 11 [(0, true), (1, true), (2, true), (3, true), (4, true), (5, true), (6, true), (7, true), (8, true), (9, true), (10, true), (11, false), (12, false)] kr kr ⟨b0, b1⟩ ?_
 intro hS
 repeat
  apply sched_firm rfl rfl hS
  ·exact zz53
  try simp only [pu]
 refine sched_one rfl rfl (fun K hK => ?_)
 go_simp
 refine (Pplus z x v (!sb) m Bv cb hn hm w.drew (HZ.out.of (Within.refl w).drew) (HX.out.of (Within.refl w).drew) (RowAt.drew HRB.out)).mono ?_
 rintro e3 w3 ⟨rfl, hI, hG⟩
 refine hK _ _ ab ?_
 clear hK K
 try simp only [pu]
 refine sched_one rfl rfl (fun K hK => ?_)
 go_simp
 refine hK _ _ ab ?_
 clear hK K
 try simp only [pu]
 refine sched_nil ?_
 go_wp2
 go_ret
 exact ⟨rfl, hI, grown_trans (grown_within z (Within.refl w).drew) hG⟩
theorem Psub (z x y : Nat) (v u : Int) (hn : (dg v.natAbs).length ≤ 1000000) (hm : (dg u.natAbs).length ≤ 1000000) (w : World) (hz : IntTy w z) (hx : IntB w x v) (hy : IntB w y u) :
 Calls Tryz.prog 378 #[.pointer (some ⟨z, 0, none⟩), .pointer (some ⟨x, 0, none⟩), .pointer (some ⟨y, 0, none⟩)] w (PutI w z (v - u)) := by
 obtain ⟨Bv, cb, b0, b1, hrb⟩ := hy.rd
 refine Calls.mono (Psub0 z x y v _ _ Bv cb hn hm w hz hx b0 b1 hrb) (fun _ _ h => PutI_eq h ?_)
 rw [sgv_not]; omega
end Go.Proofs.YtgkcpnidmfejeaaGreatDoor.P64
end
section
namespace Go.Proofs.YtgkcpnidmfejeaaGreatDoor.P64
open Go.RowKit
def RetRt (W : World) (n : Nat) (Z : Prop) (e : Ending) (w' : World) : Prop := ∃ A c lost, e = .returned (.tuple #[.slice A (dg n).length c, .bool lost]) ∧ (dg n).length ≤ c ∧ RowAt w' A (dg n) ∧ (Z → lost = false) ∧ Within W w'
theorem shr_lt {x S0 : Nat} (hS : S0 < 64) (hx : x < 18446744073709551616) : x / 2 ^ S0 < 2 ^ (64 - S0) := by
 rw [Nat.div_lt_iff_lt_mul (Nat.two_pow_pos _), ← Nat.pow_add, show 64 - S0 + S0 = 64 by omega]
 exact hx
theorem shl_mod {y S0 : Nat} (hS : S0 < 64) : y * 2 ^ (64 - S0) % 18446744073709551616 = (y % 2 ^ S0) * 2 ^ (64 - S0) := by
 rw [show (18446744073709551616 : Nat) = 2 ^ S0 * 2 ^ (64 - S0) by rw [← Nat.pow_add, show S0 + (64 - S0) = 64 by omega], Nat.mul_mod_mul_right]
theorem rs_or {x y S0 : Nat} (hS : S0 < 64) (hx : x < 18446744073709551616) :
 bits .or .u64 ((x / 2 ^ S0 : Nat) : Int) ((y * 2 ^ (64 - S0) % 18446744073709551616 : Nat) : Int) = (((x + 18446744073709551616 * y) / 2 ^ S0 % 18446744073709551616 : Nat) : Int) := by
 have h1 := shr_lt hS hx
 have h2 : y * 2 ^ (64 - S0) % 18446744073709551616 < 18446744073709551616 := Nat.mod_lt _ dc
 have h3 : 2 ^ (64 - S0) ≤ 18446744073709551616 := by rw [show (18446744073709551616 : Nat) = 2 ^ 64 from rfl]; exact Nat.pow_le_pow_right dc om
 rw [u64_or_nat _ _ om h2, Nat.or_comm, nat_join (64 - S0) _ _ (by rw [shl_mod hS, Nat.mul_mod_left]) h1]
 have e : (x + 18446744073709551616 * y) / 2 ^ S0 = x / 2 ^ S0 + y * 2 ^ (64 - S0) := by
  rw [show (18446744073709551616 : Nat) * y = 2 ^ S0 * (y * 2 ^ (64 - S0)) by
   rw [Nat.mul_comm y, ← Nat.mul_assoc, ← Nat.pow_add, show S0 + (64 - S0) = 64 by omega], Nat.add_mul_div_left _ _ (Nat.two_pow_pos _)]
 rw [e]
 have h4 : y * 2 ^ (64 - S0) % 18446744073709551616 + x / 2 ^ S0 < 18446744073709551616 := by
  rw [shl_mod hS]
  have k1 : y % 2 ^ S0 + 1 ≤ 2 ^ S0 := Nat.mod_lt _ (Nat.two_pow_pos _)
  have k2 := Nat.mul_le_mul_right (2 ^ (64 - S0)) k1
  rw [← Nat.pow_add, show S0 + (64 - S0) = 64 by omega, Nat.add_mul, Nat.one_mul, show (2 : Nat) ^ 64 = 18446744073709551616 from rfl] at k2
  omega
 congr 1
 rw [Nat.add_comm (x / 2 ^ S0), Nat.add_mod, Nat.mod_eq_of_lt (show x / 2 ^ S0 < 18446744073709551616 by omega)]
 exact (Nat.mod_eq_of_lt h4).symm
def RtRel (W : World) (g : Nat) (D : List Nat) (S0 : Nat) (iv : Value) (wr : World) : Prop :=
 ∃ (k : Nat) (o : List Nat), k ≤ D.length ∧ iv = .int .i64 (k : Int) ∧ o.length = D.length ∧ Words o ∧ OwnW wr g o ∧ lo o k = wval D / 2 ^ S0 % 18446744073709551616 ^ k ∧ Within W wr
theorem RtRel.step {W wr : World} {g : Nat} {D o : List Nat} {S0 k x y : Nat} (u q : Int) (hk : k < D.length) (hS : S0 < 64) (hD : Words D) (ho : o.length = D.length) (hwo : Words o) (hown : OwnW wr g o)
 (hval : lo o k = wval D / 2 ^ S0 % 18446744073709551616 ^ k) (hin : Within W wr) (hx : x = D.getD k 0) (hy : y = D.getD (k + 1) 0) (hg : W.heap.size ≤ g)
 (hu : u = (((x + 18446744073709551616 * y) / 2 ^ S0 % 18446744073709551616 : Nat) : Int)) (hq : q = ((k + 1 : Nat) : Int)) :
 RtRel W g D S0 (.int .i64 q) (wr.setCell ⟨g, k, none⟩ (.int .u64 u)) := by
 subst hu hq
 refine ⟨k + 1, o.set k ((x + 18446744073709551616 * y) / 2 ^ S0 % 18446744073709551616), by omega, rfl, by rw [List.length_set]; exact ho, hwo.set _ _ om, hown.set _ _ om, ?_, hin.setCell hg _⟩
 rw [lo_set_succ _ _ _ om, mod_succ, hval, right_digit _ S0 k D rfl hD hS, ← hx, ← hy]
theorem drop_getD (l : List Nat) (i k : Nat) : (l.drop i).getD k 0 = l.getD (i + k) 0 := by
 simp [List.getD_eq_getElem?_getD, List.getElem?_drop]
def LostRel (W : World) (N : Nat) (Z : Prop) (lv iv : Value) (wr : World) : Prop := ∃ (k l : Nat), k ≤ N ∧ iv = .int .i64 (k : Int) ∧ lv = .int .u64 (l : Int) ∧ l < 18446744073709551616 ∧ (Z → l = 0) ∧ W = wr
theorem and_mask {x S0 : Nat} (hS : S0 < 64) (hx : x < 18446744073709551616) : bits .and .u64 (x : Int) ((2 ^ S0 - 1 : Nat) : Int) = ((x % 2 ^ S0 : Nat) : Int) := by
 have h3 : 2 ^ S0 ≤ 18446744073709551616 := by rw [show (18446744073709551616 : Nat) = 2 ^ 64 from rfl]; exact Nat.pow_le_pow_right dc om
 have hp := Nat.two_pow_pos S0
 rw [u64_and_nat _ _ hx om, Nat.and_two_pow_sub_one_eq_mod]
theorem lo_digit {l : List Nat} {n : Nat} (h : lo l n = 0) : ∀ j, j < n → l.getD j 0 = 0 := by
 induction n with
 | zero => intro j hj; omega
 | succ n ih =>
  rw [lo_succ] at h
  have hp : 0 < 18446744073709551616 ^ n := Nat.pow_pos dc
  have h1 : lo l n = 0 := by omega
  have h2 : 18446744073709551616 ^ n * l.getD n 0 = 0 := by omega
  intro j hj
  rcases Nat.lt_or_ge j n with g | g
  ·exact ih h1 j g
  ·obtain rfl : j = n := by omega
   rcases Nat.mul_eq_zero.1 h2 with h3 | h3
   ·omega
   ·exact h3
theorem Pright_pos (la : List Nat) (A : Option Addr) (ca n W0 S0 : Nat) (Z : Prop) (hwa : Words la) (hla : la.length ≤ 500000) (hca : la.length ≤ ca) (h0 : W0 < la.length) (hn : n = 64 * W0 + S0) (hS : S0 < 64) (hZ : Z → (∀ j, j < W0 → la.getD j 0 = 0) ∧ la.getD W0 0 % 2 ^ S0 = 0) (w : World) (hra : RowAt w A la) :
 Calls Tryz.prog 324 #[.slice A la.length ca, .int .u64 (n : Int)] w (RetRt w (wval la / 2 ^ n) Z) := by
 obtain ⟨N, hN⟩ : ∃ N, la.length = W0 + N := ⟨la.length - W0, by omega⟩
 have hDl : (la.drop W0).length = N := by rw [List.length_drop]; omega
 have hmk := run_make_row' (P := Tryz.prog) 227 25 (.int .u64 0) 8 kr infoU64 rfl .i64 .i64 N om om
 have hgt : (la.length : Int) - (W0 : Int) = (N : Int) := by omega
 have HWA := Hh hwa; have HRA := Hh hra; have HDL := Hh hDl
 have hq : (n : Int) / 64 = (W0 : Int) := by omega
 have hr : (n : Int) % 64 = (S0 : Int) := by omega
 have wl : IntKind.u64.wrap (la.length : Int) = (la.length : Int) := IntWalk.u64_in _ ⟨by omega, by omega⟩
 have d0 : decide ((W0 : Int) ≥ la.length) = false := decide_eq_false om
 have HNN := Hh hN; have HN := Hh hn
 have hp := Nat.two_pow_pos S0
 have h3 : 2 ^ S0 ≤ 9223372036854775808 := by rw [show (9223372036854775808 : Nat) = 2 ^ 63 from rfl]; exact Nat.pow_le_pow_right dc om
 obtain ⟨g0, rfl, hg0, hc0⟩ := hra.cell (i := W0) h0
 obtain ⟨x0, hx0⟩ : ∃ x0, x0 = la.getD W0 0 := ⟨_, rfl⟩
 have hx0l : x0 < 18446744073709551616 := by rw [hx0]; exact hwa.getD _
 rw [← hx0] at hc0 hZ
 have gam := and_mask hS hx0l
 have gs1 : IntKind.u64.wrap ((2 : Int) ^ S0 - 1) = ((2 ^ S0 - 1 : Nat) : Int) := by
  have e : ((2 : Int) ^ S0) = ((2 ^ S0 : Nat) : Int) := by simp
  rw [e, IntKind.wrap_u64]; omega
 have gsh : IntKind.u64.wrap ((2 : Int) ^ S0) = (2 : Int) ^ S0 := by
  have e : ((2 : Int) ^ S0) = ((2 ^ S0 : Nat) : Int) := by simp
  rw [e]; exact IntWalk.u64_in _ ⟨by omega, by omega⟩
 have hwca : W0 ≤ ca := by omega
 have hl0 : x0 % 2 ^ S0 < 18446744073709551616 := Nat.lt_of_le_of_lt (Nat.mod_le _ _) hx0l
 have hw0 : W0 ≤ la.length := by omega
 have hnl : ¬ la.length ≤ W0 := by omega
 have HZ := Hh hZ
 clear hwa hra hDl hn hN hZ hx0 hp h3
 go_enter Tryz.func324, Tryz.ntmps324
 obtain ⟨l0, hl00⟩ : ∃ l0, l0 = x0 % 2 ^ S0 := ⟨_, rfl⟩
 rw [← hl00] at gam hl0 HZ
 clear hl00
 go_wp2
 try simp only [hr, hq, gsh, gs1, gam]
 go_loopw [8, 39] (fun lv iv wr => LostRel w W0 Z lv iv wr) (fun _ iv _ => W0 - (intOf iv).toNat)
 case atStart => exact ⟨0, l0, Nat.zero_le _, rfl, rfl, hl0, fun z => (HZ.out z).2, rfl⟩
 case round =>
  obtain ⟨k, l, hk, rfl, rfl, hl, hz, rfl⟩ := hrel
  have HLZ := Hh hz; clear hz
  rcases Nat.lt_or_ge k W0 with hlt | hlt
  ·obtain ⟨g1, hg1, _, hck⟩ := HRA.out.cell (i := k) om
   injection hg1 with hg1; injection hg1 with hg1; subst hg1
   obtain ⟨y, hy⟩ : ∃ y, y = la.getD k 0 := ⟨_, rfl⟩
   have hyl : y < 18446744073709551616 := by rw [hy]; exact HWA.out.getD _
   rw [← hy] at hck
   have hor : bits .or .u64 (l : Int) (y : Int) = ((l ||| y : Nat) : Int) := u64_or_nat _ _ hl hyl
   have hol : l ||| y < 18446744073709551616 := Nat.or_lt_two_pow (n := 64) hl hyl
   have hzz : Z → (l ||| y) = 0 := fun z => by rw [HLZ.out z, hy, (HZ.out z).1 k hlt]; rfl
   have HO := Hh (And.intro hol hzz); clear hol hzz hy hl hyl
   go_wp2
   go_roundw
   case rel => exact ⟨k + 1, l ||| y, hlt, by go_num, rfl, HO.out.1, HO.out.2, rfl⟩
   case measure => first | (simp [intOf]; done) | (simp [intOf]; omega)
  ·obtain rfl : k = W0 := by omega
   have HM := OwnW.made w N
   go_wp2
   go_loopw [54] (fun iv wr => RtRel w w.heap.size (la.drop k) S0 iv wr) (fun iv _ => N - (intOf iv).toNat)
   case atStart => exact ⟨0, _, Nat.zero_le _, rfl, by rw [HDL.out]; simp, Words.zeros _, HM, by rw [lo_zero]; simp [Nat.mod_one], (Within.refl w).alloc _⟩
   case round =>
    obtain ⟨j, o, hj, rfl, ho, hwo, hown, hval, hin⟩ := hrel
    rw [HDL.out] at hj ho
    have HV := Hh hval; have HO := Hh ho; have HWO := Hh hwo; clear hval ho hwo
    rcases Nat.lt_or_ge j N with hlj | hlj
    ·obtain ⟨x, hxe⟩ : ∃ x, x = la.getD (k + j) 0 := ⟨_, rfl⟩
     obtain ⟨y, hye⟩ : ∃ y, y = la.getD (k + j + 1) 0 := ⟨_, rfl⟩
     have hx : x < 18446744073709551616 := by rw [hxe]; exact HWA.out.getD _
     have hy : y < 18446744073709551616 := by rw [hye]; exact HWA.out.getD _
     have DX := Hh (fun w' h => Pdigit la (some ⟨g0, 0, none⟩) ca (k + j) x hxe om om w' h)
     have DY := Hh (fun w' h => Pdigit la (some ⟨g0, 0, none⟩) ca (k + j + 1) y hye om om w' h)
     have HR2 := Hh (HRA.out.of hin)
     have hco := hown.cell (i := j) (by rw [HO.out]; omega)
     have hfo := hown.frozen j
     have hstep := fun (u q : Int) => RtRel.step (S0 := S0) (x := x) (y := y) u q (by rw [HDL.out]; exact hlj) hS (HWA.out.drop k) (by rw [HDL.out]; exact HO.out) HWO.out hown HV.out hin (by rw [drop_getD]; exact hxe) (by rw [drop_getD]; exact hye) (Nat.le_refl _)
     have HST := Hh hstep; clear hstep hxe hye
     have w1 : IntKind.i64.wrap ((k : Int) + (j : Int)) = ((k + j : Nat) : Int) := by rw [IntKind.wrap_i64]; omega
     have w2 : IntKind.i64.wrap (((k + j : Nat) : Int) + 1) = ((k + j + 1 : Nat) : Int) := by rw [IntKind.wrap_i64]; omega
     have gsw : IntKind.u64.wrap (64 - (S0 : Int)) = ((64 - S0 : Nat) : Int) := by rw [IntKind.wrap_u64]; omega
     have gsl : IntKind.u64.wrap ((y : Int) * 2 ^ (64 - S0)) = ((y * 2 ^ (64 - S0) % 18446744073709551616 : Nat) : Int) := by
      have e : (y : Int) * 2 ^ (64 - S0) = ((y * 2 ^ (64 - S0) : Nat) : Int) := by simp
      rw [e, IntKind.wrap_u64]; omega
     have gor := rs_or (y := y) hS hx
     have GO := Hh gor; clear gor
     go_wp2_with fail
     refine (DX.out _ HR2.out).mono ?_; rintro e1 w1' ⟨rfl, rfl⟩
     go_wp2_with fail
     refine (DY.out _ HR2.out).mono ?_; rintro e2 w2' ⟨rfl, rfl⟩
     go_wp2
     go_roundw
     case rel => exact HST.out _ _ (by first | exact GO.out | (rw [← GO.out]; simp; done) | (trace_state; fail)) (by first | go_num | rfl | (trace_state; fail))
     case measure => first | (simp [intOf]; done) | (simp [intOf]; omega)
    ·obtain rfl : j = N := by omega
     have CT := Hh (Pnorm o (some ⟨w.heap.size, 0, none⟩) j HWO.out (by rw [HO.out]; exact Nat.le_refl _) (by rw [HO.out]; omega) _ hown.at)
     rw [HO.out] at CT
     have hz2 : Z → ((l : Int) != 0) = false := fun z => by rw [HLZ.out z]; rfl
     have HZ2 := Hh hz2
     go_wp2_with fail
     refine (CT.out).mono ?_; rintro e1 w1 ⟨rfl, rfl⟩
     go_wp2
     go_ret2
     have hr1 : RowAt wr (some ⟨w.heap.size, 0, none⟩) (dg (wval o)) := hown.at.cut HWO.out
     have hlen : (dg (wval o)).length ≤ j := by
      have := dg_len_le (wval_lt o HWO.out); rw [HO.out] at this; exact this
     have hs := wval_split la k
     have h1 := lo_lt la HWA.out k
     have h2 := wval_lt _ (HWA.out.drop k)
     rw [HDL.out] at h2
     have e : wval (la.drop k) = wval la / 18446744073709551616 ^ k := by
      rw [hs, Nat.add_mul_div_left _ _ (Nat.pow_pos dc), Nat.div_eq_of_lt h1, Nat.zero_add]
     have ev : wval o = wval la / 2 ^ n := by
      rw [← lo_all o (Nat.le_of_eq HO.out), HV.out, Nat.mod_eq_of_lt (Nat.lt_of_le_of_lt (Nat.div_le_self _ _) h2), e, Nat.div_div_eq_div_mul, HN.out, show (18446744073709551616 : Nat) = 2 ^ 64 from rfl, ← Nat.pow_mul, ← Nat.pow_add]
     rw [ev] at hr1 hlen
     rw [ev]
     exact ⟨_, _, _, rfl, hlen, hr1, HZ2.out, hin⟩
theorem Pright_nil (m : Nat) (A : Option Addr) (ca n W0 : Nat) (Z : Prop) (hW : n / 64 = W0) (h : m ≤ W0) (hn : n ≤ 40000000) (hZ : Z → m = 0) (w : World) : Calls Tryz.prog 324 #[.slice A m ca, .int .u64 (n : Int)] w (RetRt w 0 Z) := by
 have hq : (n : Int) / 64 = (W0 : Int) := by omega
 have wl : IntKind.u64.wrap (m : Int) = (m : Int) := IntWalk.u64_in _ ⟨by omega, by omega⟩
 have d0 : decide ((W0 : Int) ≥ m) = true := decide_eq_true om
 have hnl : m ≤ W0 := h
 have hz2 : Z → decide ((m : Int) > 0) = false := fun z => by rw [hZ z]; rfl
 have hz3 : Z → decide (0 < m) = false := fun z => by rw [hZ z]; rfl
 have HZ2 := Hh hz2; have HZ3 := Hh hz3
 clear hW hZ hz2 hz3
 go_enter Tryz.func324, Tryz.ntmps324
 go_wp2
 go_ret2
 exact ⟨none, 0, _, by rw [dg_zero]; rfl, by rw [dg_zero]; exact Nat.le_refl _, by rw [dg_zero]; exact RowAt.nil, by first | exact HZ2.out | exact HZ3.out, Within.refl _⟩
theorem Pright (a : Nat) (A : Option Addr) (ca n : Nat) (ha : (dg a).length ≤ 400000) (hca : (dg a).length ≤ ca) (hn : n ≤ 16000000) (w : World) (hra : RowAt w A (dg a)) :
 Calls Tryz.prog 324 #[.slice A (dg a).length ca, .int .u64 (n : Int)] w (RetRt w (a / 2 ^ n) (a % 2 ^ n = 0)) := by
 rcases Nat.lt_or_ge (n / 64) (dg a).length with h | h
 ·have k := Pright_pos (dg a) A ca n (n / 64) (n % 64) (a % 2 ^ n = 0) (words_dg a) om hca h om om (fun z => ?_) w hra
  ·rw [wval_dg] at k
   exact k
  ·have e : 2 ^ n = 18446744073709551616 ^ (n / 64) * 2 ^ (n % 64) := by
    rw [show (18446744073709551616 : Nat) = 2 ^ 64 from rfl, ← Nat.pow_mul, ← Nat.pow_add]; congr 1; omega
   have hs := wval_split (dg a) (n / 64)
   rw [wval_dg] at hs
   have hlo := lo_lt (dg a) (words_dg a) (n / 64)
   have hd1 : 18446744073709551616 ^ (n / 64) ∣ a := Nat.dvd_trans (by rw [e]; exact Nat.dvd_mul_right _ _) (Nat.dvd_of_mod_eq_zero z)
   have hl0 : lo (dg a) (n / 64) = 0 := by
    have := Nat.mod_eq_zero_of_dvd hd1
    rw [hs, Nat.add_mul_mod_self_left, Nat.mod_eq_of_lt hlo] at this
    exact this
   refine ⟨fun j hj => lo_digit hl0 j hj, ?_⟩
   have hdv : 2 ^ (n % 64) ∣ wval ((dg a).drop (n / 64)) := by
    have hz := Nat.dvd_of_mod_eq_zero z
    rw [hl0, Nat.zero_add] at hs
    rw [hs, e] at hz
    exact Nat.dvd_of_mul_dvd_mul_left (Nat.pow_pos dc) hz
   have ed : (dg a).drop (n / 64) = (dg a).getD (n / 64) 0 :: (dg a).drop (n / 64 + 1) := by rw [List.drop_eq_getElem_cons h, List.getD, List.getElem?_eq_getElem h]; rfl
   rw [ed] at hdv
   have h4 : wval ((dg a).getD (n / 64) 0 :: (dg a).drop (n / 64 + 1)) = (dg a).getD (n / 64) 0 + 18446744073709551616 * wval ((dg a).drop (n / 64 + 1)) := rfl
   rw [h4] at hdv
   have h5 : 2 ^ (n % 64) ∣ 18446744073709551616 * wval ((dg a).drop (n / 64 + 1)) := Nat.dvd_trans (by rw [show (18446744073709551616 : Nat) = 2 ^ 64 from rfl]; exact Nat.pow_dvd_pow 2 om) (Nat.dvd_mul_right _ _)
   exact Nat.mod_eq_zero_of_dvd ((Nat.dvd_add_iff_left h5).2 hdv)
 ·have e : a / 2 ^ n = 0 := by
   apply Nat.div_eq_of_lt
   have h1 := lt_of_dg a
   have h2 : 18446744073709551616 ^ (dg a).length ≤ 2 ^ n := by
    rw [show (18446744073709551616 : Nat) = 2 ^ 64 from rfl, ← Nat.pow_mul]; exact Nat.pow_le_pow_right dc om
   omega
  rw [e]
  refine Pright_nil _ A ca n (n / 64) _ rfl h om (fun z => ?_) w
  have h1 := lt_of_dg a
  have h2 : 18446744073709551616 ^ (dg a).length ≤ 2 ^ n := by
   rw [show (18446744073709551616 : Nat) = 2 ^ 64 from rfl, ← Nat.pow_mul]; exact Nat.pow_le_pow_right dc om
  rw [Nat.mod_eq_of_lt om] at z
  rw [z, dg_zero]; rfl
end Go.Proofs.YtgkcpnidmfejeaaGreatDoor.P64
end
section
namespace Go.Proofs.YtgkcpnidmfejeaaGreatDoor.Fp
open Ieee
theorem two_pow_pos (n : Nat) : 0 < 2 ^ n := Nat.two_pow_pos n
def rne (n g : Nat) : Nat := n / g + (if g < 2 * (n % g) ∨ (g = 2 * (n % g) ∧ n / g % 2 = 1) then 1 else 0)
theorem rne_one (n : Nat) : rne n 1 = n := by
 unfold rne
 simp [Nat.mod_one]
theorem rne_zero (g : Nat) (_hg : 0 < g) : rne 0 g = 0 := by
 unfold rne; simp
theorem rne_mul (q g : Nat) (hg : 0 < g) : rne (q * g) g = q := by
 unfold rne
 rw [Nat.mul_mod_left, Nat.mul_div_cancel _ hg]
 simp; omega
theorem rne_scale (n g k : Nat) (hk : 0 < k) : rne (n * k) (g * k) = rne n g := by
 unfold rne
 rw [Nat.mul_div_mul_right _ _ hk, Nat.mul_mod_mul_right]
 have e1 : (g * k < 2 * (n % g * k)) ↔ g < 2 * (n % g) := by
  rw [← Nat.mul_assoc]; exact Nat.mul_lt_mul_right hk
 have e2 : (g * k = 2 * (n % g * k)) ↔ g = 2 * (n % g) := by
  rw [← Nat.mul_assoc]; exact ⟨fun h => Nat.eq_of_mul_eq_mul_right hk h, fun h => congrArg (· * k) h⟩
 simp only [e1, e2]
theorem shiftLeft_eq (a b : Nat) : a <<< b = a * 2 ^ b := Nat.shiftLeft_eq a b
theorem cut_even (neg : Bool) (n drop : Nat) : Toward.even.cut neg n drop = rne n (2 ^ drop) := by
 unfold Toward.cut rne
 simp only [shiftLeft_eq, Nat.one_mul]
 have hlog : n < 2 ^ (n.log2 + 1) := Nat.lt_log2_self
 by_cases h : drop ≤ n.log2 + 2
 ·rw [Nat.min_eq_left h]
  congr 1
  by_cases h1 : 2 ^ drop < 2 * (n % 2 ^ drop)
  ·simp [h1]
  ·by_cases h2 : 2 ^ drop = 2 * (n % 2 ^ drop)
   ·by_cases h3 : n / 2 ^ drop % 2 = 1
    ·have : ¬ 2 ^ drop < 2 ^ drop := by omega
     simp [← h2, h3]
    ·simp [← h2, h3]
   ·simp [h1, h2]
 ·have h' : n.log2 + 2 ≤ drop := by omega
  rw [Nat.min_eq_right h']
  have hp : 2 ^ (n.log2 + 2) = 2 * 2 ^ (n.log2 + 1) := by rw [Nat.pow_succ]; omega
  have hle : 2 ^ (n.log2 + 2) ≤ 2 ^ drop := Nat.pow_le_pow_right om h'
  have d1 : n / 2 ^ (n.log2 + 2) = 0 := Nat.div_eq_of_lt om
  have d2 : n / 2 ^ drop = 0 := Nat.div_eq_of_lt om
  have m1 : n % 2 ^ (n.log2 + 2) = n := Nat.mod_eq_of_lt om
  have m2 : n % 2 ^ drop = n := Nat.mod_eq_of_lt om
  rw [d1, d2, m1, m2]
  have a1 : ¬ (2 ^ (n.log2 + 2) < 2 * n) := by omega
  have a2 : ¬ (2 ^ drop < 2 * n) := by omega
  simp [a1, a2]
variable (f : Format)
theorem binade_pos : 0 < f.binade := two_pow_pos _
def grid (m s : Nat) : Nat := (max (m.log2 - f.fractionBits) s - s) * f.binade + rne m (2 ^ max (m.log2 - f.fractionBits) s)
def rung (m : Nat) : Nat := min (grid f m 0) f.infRung
theorem grid_zero (s : Nat) : grid f 0 s = 0 := by
 unfold grid
 have : (0 : Nat).log2 = 0 := by simp
 rw [this, Nat.zero_sub, Nat.max_eq_right (Nat.zero_le _), Nat.sub_self, Nat.zero_mul, rne_zero _ (two_pow_pos _)]
theorem nearest_below (neg : Bool) (m s : Nat) : f.nearest neg m (f.leastPlace - s) = f.word neg (min (grid f m s) f.infRung) := by
 unfold Format.nearest
 by_cases hm : m = 0
 ·subst hm; simp [grid_zero]
 ·rw [if_neg hm]
  dsimp only
  rw [cut_even]
  have hlast : max (f.leastPlace - s + m.log2 - f.fractionBits) f.leastPlace = f.leastPlace + (max (m.log2 - f.fractionBits) s : Nat) - s := by omega
  rw [hlast]
  have h1 : (f.leastPlace - s - (f.leastPlace + (max (m.log2 - f.fractionBits) s : Nat) - s)).toNat = 0 := by omega
  have h2 : (f.leastPlace + (max (m.log2 - f.fractionBits) s : Nat) - s - (f.leastPlace - s)).toNat = max (m.log2 - f.fractionBits) s := by omega
  have h3 : (f.leastPlace + (max (m.log2 - f.fractionBits) s : Nat) - s - f.leastPlace).toNat = max (m.log2 - f.fractionBits) s - s := by omega
  rw [h1, h2, h3]
  rfl
theorem log2_mul_pow (m k : Nat) (hm : m ≠ 0) : (m * 2 ^ k).log2 = m.log2 + k := by
 have hp := two_pow_pos k
 have hne : m * 2 ^ k ≠ 0 := Nat.mul_ne_zero hm om
 rw [Nat.log2_eq_iff hne]
 have h1 := Nat.log2_self_le hm
 have h2 : m < 2 ^ (m.log2 + 1) := Nat.lt_log2_self
 constructor
 ·rw [Nat.pow_add]; exact Nat.mul_le_mul_right _ h1
 ·have : 2 ^ (m.log2 + k + 1) = 2 ^ (m.log2 + 1) * 2 ^ k := by rw [← Nat.pow_add]; congr 1; omega
  rw [this]; exact (Nat.mul_lt_mul_right hp).2 h2
theorem grid_shift (m k s : Nat) : grid f (m * 2 ^ k) (s + k) = grid f m s := by
 by_cases hm : m = 0
 ·subst hm; simp [grid_zero]
 ·unfold grid
  rw [log2_mul_pow m k hm]
  by_cases h : m.log2 - f.fractionBits ≤ s
  ·rw [Nat.max_eq_right h, Nat.max_eq_right om, Nat.pow_add, rne_scale _ _ _ (two_pow_pos k)]
   simp
  ·have e1 : max (m.log2 - f.fractionBits) s = m.log2 - f.fractionBits := by omega
   have e2 : max (m.log2 + k - f.fractionBits) (s + k) = m.log2 - f.fractionBits + k := by omega
   rw [e1, e2, Nat.pow_add, rne_scale _ _ _ (two_pow_pos k)]
   congr 2; omega
theorem nearest_units (neg : Bool) (m : Nat) (e : Int) (he : f.leastPlace ≤ e) : f.nearest neg m e = f.word neg (rung f (m * 2 ^ (e - f.leastPlace).toNat)) := by
 by_cases hm : m = 0
 ·subst hm
  simp [Format.nearest, rung, grid_zero]
 ·obtain ⟨k, hk⟩ := Int.eq_ofNat_of_zero_le (show 0 ≤ e - f.leastPlace by omega)
  have ek : e = f.leastPlace + k := by omega
  subst ek
  rw [hk]
  simp only [Int.toNat_natCast]
  unfold Format.nearest
  rw [if_neg hm]
  dsimp only
  rw [cut_even]
  unfold rung grid
  rw [log2_mul_pow m k hm]
  by_cases h : m.log2 + k - f.fractionBits ≤ k
  ·-- a shift to the left, or none
   by_cases h0 : m.log2 + k ≤ f.fractionBits
   ·have hlast : max (f.leastPlace + k + m.log2 - f.fractionBits) f.leastPlace = f.leastPlace := by omega
    rw [hlast]
    have h1 : (f.leastPlace + k - f.leastPlace).toNat = k := by omega
    have h2 : (f.leastPlace - (f.leastPlace + k)).toNat = 0 := by omega
    have h3 : m.log2 + k - f.fractionBits = 0 := by omega
    rw [h1, h2, h3]
    simp [rne_one, shiftLeft_eq]
   ·have hd : (m.log2 + k - f.fractionBits : Nat) = m.log2 + k - f.fractionBits := rfl
    have hlast : max (f.leastPlace + k + m.log2 - f.fractionBits) f.leastPlace = f.leastPlace + (m.log2 + k - f.fractionBits : Nat) := by omega
    rw [hlast]
    have h1 : (f.leastPlace + k - (f.leastPlace + (m.log2 + k - f.fractionBits : Nat))).toNat = k - (m.log2 + k - f.fractionBits) := by omega
    have h2 : (f.leastPlace + (m.log2 + k - f.fractionBits : Nat) - (f.leastPlace + k)).toNat = 0 := by omega
    have h3 : (f.leastPlace + (m.log2 + k - f.fractionBits : Nat) - f.leastPlace).toNat = m.log2 + k - f.fractionBits := by omega
    have h4 : max (m.log2 + k - f.fractionBits) 0 = m.log2 + k - f.fractionBits := by omega
    rw [h1, h2, h3, h4, shiftLeft_eq, Nat.pow_zero, rne_one]
    have h5 : m * 2 ^ k = (m * 2 ^ (k - (m.log2 + k - f.fractionBits))) * 2 ^ (m.log2 + k - f.fractionBits) := by
     rw [Nat.mul_assoc, ← Nat.pow_add]; congr 2; omega
    rw [h5, rne_mul _ _ (two_pow_pos _)]
    simp
  ·have hlast : max (f.leastPlace + k + m.log2 - f.fractionBits) f.leastPlace = f.leastPlace + (m.log2 + k - f.fractionBits : Nat) := by omega
   rw [hlast]
   have h1 : (f.leastPlace + k - (f.leastPlace + (m.log2 + k - f.fractionBits : Nat))).toNat = 0 := by omega
   have h2 : (f.leastPlace + (m.log2 + k - f.fractionBits : Nat) - (f.leastPlace + k)).toNat = m.log2 - f.fractionBits := by omega
   have h3 : (f.leastPlace + (m.log2 + k - f.fractionBits : Nat) - f.leastPlace).toNat = m.log2 + k - f.fractionBits := by omega
   have h4 : max (m.log2 + k - f.fractionBits) 0 = m.log2 - f.fractionBits + k := by omega
   rw [h1, h2, h3, h4, shiftLeft_eq, Nat.pow_zero, Nat.mul_one, Nat.pow_add, rne_scale _ _ _ (two_pow_pos k)]
   congr 2
   simp
   congr 1
   omega
end Go.Proofs.YtgkcpnidmfejeaaGreatDoor.Fp
namespace Go.Proofs.YtgkcpnidmfejeaaGreatDoor.Fp
open Ieee
variable (f : Format)
def mag (r : Nat) : Nat := if r < f.binade then r else (f.binade + r % f.binade) * 2 ^ (r / f.binade - 1)
def step (r : Nat) : Nat := 2 ^ (r / f.binade - 1)
theorem step_pos (r : Nat) : 0 < step f r := two_pow_pos _
theorem mag_lt (r : Nat) (h : r < f.binade) : mag f r = r := if_pos h
theorem mag_zero : mag f 0 = 0 := if_pos (binade_pos f)
theorem mag_eq (r : Nat) : mag f r = (if r < f.binade then r else f.binade + r % f.binade) * step f r := by
 unfold mag step
 by_cases h : r < f.binade
 ·rw [if_pos h, if_pos h, Nat.div_eq_of_lt h]; simp
 ·rw [if_neg h, if_neg h]
theorem mag_succ (r : Nat) : mag f (r + 1) = mag f r + step f r := by
 have hB := binade_pos f
 unfold mag step
 by_cases h : r + 1 < f.binade
 ·rw [if_pos h, if_pos om, Nat.div_eq_of_lt om]
 ·rw [if_neg h]
  by_cases h1 : r < f.binade
  ·have e : r + 1 = f.binade := by omega
   rw [if_pos h1, e, Nat.mod_self, Nat.div_self hB, Nat.div_eq_of_lt h1]; simp; omega
  ·rw [if_neg h1]
   have hq : 0 < r / f.binade := Nat.div_pos om hB
   have hd := Nat.div_add_mod r f.binade
   have hm := Nat.mod_lt r hB
   by_cases h2 : r % f.binade + 1 = f.binade
   ·have e1 : r + 1 = f.binade * (r / f.binade + 1) := by rw [Nat.mul_add]; omega
    have e2 : (r + 1) % f.binade = 0 := by rw [e1]; exact Nat.mul_mod_right _ _
    have e3 : (r + 1) / f.binade = r / f.binade + 1 := by
     conv => lhs; rw [e1]
     exact Nat.mul_div_cancel_left _ hB
    rw [e2, e3]
    obtain ⟨q, hq'⟩ : ∃ q, r / f.binade = q + 1 := ⟨r / f.binade - 1, by omega⟩
    rw [hq']
    simp only [Nat.add_sub_cancel, Nat.add_zero]
    have : r % f.binade = f.binade - 1 := by omega
    rw [this, Nat.pow_succ]
    have hsub : f.binade + (f.binade - 1) = 2 * f.binade - 1 := by omega
    rw [hsub]
    have hp := two_pow_pos q
    have : (2 * f.binade - 1) * 2 ^ q + 2 ^ q = 2 * f.binade * 2 ^ q := by
     rw [← Nat.succ_mul]; congr 1; omega
    rw [this, Nat.mul_comm (2 ^ q) 2, ← Nat.mul_assoc, Nat.mul_comm f.binade 2]
   ·have e1 : r + 1 = f.binade * (r / f.binade) + (r % f.binade + 1) := by omega
    have hlt : r % f.binade + 1 < f.binade := by omega
    have e2 : (r + 1) % f.binade = r % f.binade + 1 := by
     conv => lhs; rw [e1]
     rw [Nat.mul_add_mod, Nat.mod_eq_of_lt hlt]
    have e3 : (r + 1) / f.binade = r / f.binade := by
     conv => lhs; rw [e1]
     rw [Nat.mul_add_div hB, Nat.div_eq_of_lt hlt, Nat.add_zero]
    rw [e2, e3, ← Nat.add_assoc, Nat.succ_mul]
theorem mag_mono_lt {r r' : Nat} (h : r < r') : mag f r < mag f r' := by
 induction r' with
 | zero => omega
 | succ n ih =>
  have hs := step_pos f n
  rw [mag_succ]
  by_cases e : r = n
  ·subst e; omega
  ·have := ih om; omega
theorem mag_mono {r r' : Nat} (h : r ≤ r') : mag f r ≤ mag f r' := by
 by_cases e : r = r'
 ·subst e; exact Nat.le_refl _
 ·exact Nat.le_of_lt (mag_mono_lt f om)
theorem mag_lt_iff {r r' : Nat} : mag f r < mag f r' ↔ r < r' := by
 constructor
 ·intro h
  by_cases e : r < r'
  ·exact e
  ·have := mag_mono f (show r' ≤ r by omega); omega
 ·exact mag_mono_lt f
theorem le_mag (r : Nat) : r ≤ mag f r := by
 induction r with
 | zero => exact Nat.zero_le _
 | succ n ih => have := step_pos f n; rw [mag_succ]; omega
theorem floor_exists (m g : Nat) (hg : 0 < g) : ∃ r, mag f r * g ≤ m ∧ m < mag f (r + 1) * g := by
 have key : ∀ n, m < mag f n * g → ∃ r, mag f r * g ≤ m ∧ m < mag f (r + 1) * g := by
  intro n
  induction n with
  | zero => intro h; rw [mag_zero] at h; omega
  | succ n ih =>
   intro h
   by_cases h1 : m < mag f n * g
   ·exact ih h1
   ·exact ⟨n, by omega, h⟩
 refine key (m + 1) ?_
 have h1 := le_mag f (m + 1)
 have h2 : mag f (m + 1) * 1 ≤ mag f (m + 1) * g := Nat.mul_le_mul_left _ hg
 omega
theorem binade_even (hF : 1 ≤ f.fractionBits) : f.binade % 2 = 0 := by
 unfold Format.binade
 obtain ⟨k, hk⟩ : ∃ k, f.fractionBits = k + 1 := ⟨f.fractionBits - 1, by omega⟩
 rw [hk, Nat.pow_succ]; omega
theorem grid_between (hF : 1 ≤ f.fractionBits) (r s x : Nat) (hx : x < step f r * 2 ^ s) :
 grid f (mag f r * 2 ^ s + x) s = r + (if step f r * 2 ^ s < 2 * x ∨ (step f r * 2 ^ s = 2 * x ∧ r % 2 = 1) then 1 else 0) := by
 have hB := binade_pos f
 have hB2 := binade_even f hF
 have hs := two_pow_pos s
 by_cases h : r < f.binade
 ·have hst : step f r = 1 := by unfold step; rw [Nat.div_eq_of_lt h]
  rw [hst, Nat.one_mul] at hx ⊢
  rw [mag_lt f r h]
  have hlt : r * 2 ^ s + x < f.binade * 2 ^ s := by
   have : (r + 1) * 2 ^ s ≤ f.binade * 2 ^ s := Nat.mul_le_mul_right _ om
   rw [Nat.succ_mul] at this; omega
  have hl : (r * 2 ^ s + x).log2 - f.fractionBits ≤ s := by
   by_cases h0 : r * 2 ^ s + x = 0
   ·rw [h0]; simp
   ·have : (r * 2 ^ s + x).log2 < f.fractionBits + s := by
     rw [Nat.log2_lt h0, Nat.pow_add]; exact hlt
    omega
  unfold grid
  rw [Nat.max_eq_right hl, Nat.sub_self, Nat.zero_mul, Nat.zero_add]
  unfold rne
  have e1 : (r * 2 ^ s + x) / 2 ^ s = r := by
   rw [Nat.mul_comm, Nat.mul_add_div hs, Nat.div_eq_of_lt hx, Nat.add_zero]
  have e2 : (r * 2 ^ s + x) % 2 ^ s = x := by
   rw [Nat.mul_comm, Nat.mul_add_mod, Nat.mod_eq_of_lt hx]
  rw [e1, e2]
 ·have hq : 0 < r / f.binade := Nat.div_pos om hB
  have hd := Nat.div_add_mod r f.binade
  have hm := Nat.mod_lt r hB
  obtain ⟨q, hq'⟩ : ∃ q, r / f.binade = q + 1 := ⟨r / f.binade - 1, by omega⟩
  have hst : step f r = 2 ^ q := by unfold step; rw [hq']; rfl
  have hmag : mag f r = (f.binade + r % f.binade) * 2 ^ q := by rw [mag_eq, if_neg h, hst]
  generalize hc : f.binade + r % f.binade = c at hmag
  rw [hst, ← Nat.pow_add] at hx ⊢
  rw [hmag, Nat.mul_assoc, ← Nat.pow_add]
  have hp := two_pow_pos (q + s)
  have hlo : f.binade * 2 ^ (q + s) ≤ c * 2 ^ (q + s) + x := by
   have : f.binade * 2 ^ (q + s) ≤ c * 2 ^ (q + s) := Nat.mul_le_mul_right _ om
   omega
  have hhi : c * 2 ^ (q + s) + x < 2 * f.binade * 2 ^ (q + s) := by
   have : (c + 1) * 2 ^ (q + s) ≤ 2 * f.binade * 2 ^ (q + s) := Nat.mul_le_mul_right _ om
   rw [Nat.succ_mul] at this; omega
  have hl : (c * 2 ^ (q + s) + x).log2 = f.fractionBits + (q + s) := by
   have h0 : c * 2 ^ (q + s) + x ≠ 0 := by
    have : 0 < f.binade * 2 ^ (q + s) := Nat.mul_pos hB hp
    omega
   rw [Nat.log2_eq_iff h0]
   constructor
   ·rw [Nat.pow_add]; exact hlo
   ·have : 2 ^ (f.fractionBits + (q + s) + 1) = 2 * f.binade * 2 ^ (q + s) := by
     rw [Nat.pow_succ, Nat.pow_add]; unfold Format.binade
     rw [Nat.mul_comm _ 2, Nat.mul_assoc]
    rw [this]; exact hhi
  unfold grid
  rw [hl]
  have e0 : max (f.fractionBits + (q + s) - f.fractionBits) s = q + s := by omega
  rw [e0]
  unfold rne
  have e1 : (c * 2 ^ (q + s) + x) / 2 ^ (q + s) = c := by
   rw [Nat.mul_comm, Nat.mul_add_div hp, Nat.div_eq_of_lt hx, Nat.add_zero]
  have e2 : (c * 2 ^ (q + s) + x) % 2 ^ (q + s) = x := by
   rw [Nat.mul_comm, Nat.mul_add_mod, Nat.mod_eq_of_lt hx]
  rw [e1, e2]
  have e3 : c % 2 = r % 2 := by
   have h1 : (f.binade * (r / f.binade)) % 2 = 0 := by rw [Nat.mul_mod, hB2]; simp
   omega
  have e4 : (q + s - s) * f.binade + c = r := by
   have : q + s - s = q := by omega
   rw [this, ← hc]
   have : f.binade * (r / f.binade) = q * f.binade + f.binade := by rw [hq', Nat.mul_comm, Nat.succ_mul]
   omega
  rw [e3, ← Nat.add_assoc, e4]
theorem grid_mag (hF : 1 ≤ f.fractionBits) (r s : Nat) : grid f (mag f r * 2 ^ s) s = r := by
 have hpos : 0 < step f r * 2 ^ s := Nat.mul_pos (step_pos f r) (two_pow_pos s)
 have := grid_between f hF r s 0 hpos
 rw [Nat.add_zero] at this
 rw [this, if_neg om]; rfl
theorem grid_mono (hF : 1 ≤ f.fractionBits) (s : Nat) {m m' : Nat} (h : m ≤ m') : grid f m s ≤ grid f m' s := by
 obtain ⟨r, h1, h2⟩ := floor_exists f m (2 ^ s) (two_pow_pos s)
 obtain ⟨r', h1', h2'⟩ := floor_exists f m' (2 ^ s) (two_pow_pos s)
 have hlt : mag f r * 2 ^ s < mag f (r' + 1) * 2 ^ s := by omega
 have hrr : r < r' + 1 := (mag_lt_iff f).1 (Nat.lt_of_mul_lt_mul_right hlt)
 rw [mag_succ, Nat.add_mul] at h2 h2'
 have g := grid_between f hF r s (m - mag f r * 2 ^ s) om
 have g' := grid_between f hF r' s (m' - mag f r' * 2 ^ s) om
 rw [show mag f r * 2 ^ s + (m - mag f r * 2 ^ s) = m by omega] at g
 rw [show mag f r' * 2 ^ s + (m' - mag f r' * 2 ^ s) = m' by omega] at g'
 rw [g, g']
 by_cases e : r = r'
 ·subst e
  split
  ·rename_i hc
   rw [if_pos om]; omega
  ·split <;> omega
 ·split <;> split <;> omega
theorem rung_mono (hF : 1 ≤ f.fractionBits) {m m' : Nat} (h : m ≤ m') : rung f m ≤ rung f m' := by
 unfold rung
 have := grid_mono f hF 0 h
 omega
end Go.Proofs.YtgkcpnidmfejeaaGreatDoor.Fp
namespace Go.Proofs.YtgkcpnidmfejeaaGreatDoor.Fp
open Ieee
variable (f : Format)
def sg (w : Nat) : Bool := w / f.signWeight % 2 == 1
def rg (w : Nat) : Nat := w % f.signWeight
def un (w : Nat) : Int := if sg f w then -(mag f (rg f w) : Int) else mag f (rg f w)
def key (w : Nat) : Int := if sg f w then -(rg f w : Int) else rg f w
theorem weight_pos : 0 < f.signWeight := two_pow_pos _
theorem inf_lt : f.infRung < f.signWeight := by
 have h : 0 < 2 ^ f.exponentBits := two_pow_pos _
 have hb := binade_pos f
 have e : f.infRung + f.binade = f.signWeight := by
  unfold Format.infRung Format.signWeight
  rw [Nat.pow_add, ← Nat.succ_mul]
  exact congrArg (· * f.binade) om
 omega
theorem width_eq : 2 ^ f.width = 2 * f.signWeight := by
 unfold Format.width Format.signWeight
 rw [Nat.add_assoc, Nat.add_comm 1, Nat.pow_succ, Nat.mul_comm]
theorem sg_word (neg : Bool) (r : Nat) (h : r < f.signWeight) : sg f (f.word neg r) = neg := by
 have hp := weight_pos f
 unfold sg Format.word
 cases neg
 ·simp [Nat.div_eq_of_lt h]
 ·simp only [if_true]
  rw [show f.signWeight + r = f.signWeight * 1 + r by omega, Nat.mul_add_div hp, Nat.div_eq_of_lt h]; rfl
theorem rg_word (neg : Bool) (r : Nat) (h : r < f.signWeight) : rg f (f.word neg r) = r := by
 unfold rg Format.word
 cases neg
 ·simp [Nat.mod_eq_of_lt h]
 ·simp [Nat.mod_eq_of_lt h]
theorem word_sg_rg (w : Nat) (h : w < 2 ^ f.width) : f.word (sg f w) (rg f w) = w := by
 have hp := weight_pos f
 rw [width_eq] at h
 unfold sg rg Format.word
 by_cases h1 : w < f.signWeight
 ·rw [Nat.div_eq_of_lt h1, Nat.mod_eq_of_lt h1]; rfl
 ·have e : w = f.signWeight * 1 + (w - f.signWeight) := by omega
  have hlt : w - f.signWeight < f.signWeight := by omega
  have e1 : w / f.signWeight = 1 := by
   conv => lhs; rw [e]
   rw [Nat.mul_add_div hp, Nat.div_eq_of_lt hlt]
  have e2 : w % f.signWeight = w - f.signWeight := by
   conv => lhs; rw [e]
   rw [Nat.mul_add_mod, Nat.mod_eq_of_lt hlt]
  rw [e1, e2]; simp; omega
theorem read_fin (w : Nat) (h : rg f w < f.infRung) : ∃ m e, f.read w = .number (sg f w) m e ∧ f.leastPlace ≤ e ∧ m * 2 ^ (e - f.leastPlace).toNat = mag f (rg f w) := by
 unfold Format.read
 dsimp only
 have e0 : w % f.signWeight = rg f w := rfl
 rw [e0]
 by_cases h1 : rg f w < f.binade
 ·rw [if_pos h1]
  exact ⟨_, _, rfl, Int.le_refl _, by rw [mag_lt f _ h1]; simp⟩
 ·rw [if_neg h1, if_pos h]
  refine ⟨_, _, rfl, by omega, ?_⟩
  unfold mag
  rw [if_neg h1]
  congr 2
  omega
theorem read_inf (w : Nat) (h : rg f w = f.infRung) (hb : f.binade ≤ f.infRung) : f.read w = .infinity (sg f w) := by
 unfold Format.read
 dsimp only
 have e0 : w % f.signWeight = rg f w := rfl
 rw [e0, if_neg om, if_neg om, if_pos h]
 rfl
theorem read_nan (w : Nat) (h : f.infRung < rg f w) (hb : f.binade ≤ f.infRung) : f.read w = .nan (sg f w) (rg f w - f.infRung) := by
 unfold Format.read
 dsimp only
 have e0 : w % f.signWeight = rg f w := rfl
 rw [e0, if_neg om, if_neg om, if_neg om]
 rfl
theorem signed_units (s : Bool) (m : Nat) (e b l : Int) (hb : b ≤ e) (hl : l ≤ b) :
 signed s m (e - b).toNat * 2 ^ (b - l).toNat = if s then -((m * 2 ^ (e - l).toNat : Nat) : Int) else ((m * 2 ^ (e - l).toNat : Nat) : Int) := by
 have hpow : (e - l).toNat = (e - b).toNat + (b - l).toNat := by omega
 unfold signed
 rw [hpow, Nat.pow_add, ← Nat.mul_assoc, shiftLeft_eq]
 cases s
 ·simp
 ·simp [Int.neg_mul]
theorem un_of_read {w : Nat} {m : Nat} {e : Int} (h2 : m * 2 ^ (e - f.leastPlace).toNat = mag f (rg f w)) :
 un f w = if sg f w then -((m * 2 ^ (e - f.leastPlace).toNat : Nat) : Int) else ((m * 2 ^ (e - f.leastPlace).toNat : Nat) : Int) := by
 rw [h2]; rfl
theorem compare_scale (a b : Int) (k : Nat) : compare (a * 2 ^ k) (b * 2 ^ k) = compare a b := by
 have hp : (0 : Int) < 2 ^ k := by exact_mod_cast two_pow_pos k
 simp only [compare, compareOfLessAndEq]
 have e1 : (a * 2 ^ k < b * 2 ^ k) ↔ a < b := ⟨fun h => Int.lt_of_mul_lt_mul_right h (Int.le_of_lt hp), fun h => Int.mul_lt_mul_of_pos_right h hp⟩
 have e2 : (a * 2 ^ k = b * 2 ^ k) ↔ a = b := ⟨fun h => Int.eq_of_mul_eq_mul_right om h, fun h => by rw [h]⟩
 simp only [e1, e2]
theorem cmp_lt {a b : Int} (h : a < b) : compare a b = .lt := by simp [compare, compareOfLessAndEq, h]
theorem cmp_eq {a b : Int} (h : a = b) : compare a b = .eq := by subst h; simp [compare, compareOfLessAndEq]
theorem cmp_gt {a b : Int} (h : b < a) : compare a b = .gt := by
 have h1 : ¬ a < b := by omega
 have h2 : ¬ a = b := by omega
 simp [compare, compareOfLessAndEq, h1, h2]
theorem order_units (x y : Nat) (hx : rg f x < f.infRung) (hy : rg f y < f.infRung) : f.order x y = some (compare (un f x) (un f y)) := by
 obtain ⟨m, i, r1, l1, u1⟩ := read_fin f x hx
 obtain ⟨n, j, r2, l2, u2⟩ := read_fin f y hy
 unfold Format.order
 rw [r1, r2]
 show some (compare (signed (sg f x) m (i - min i j).toNat) (signed (sg f y) n (j - min i j).toNat)) = _
 rw [un_of_read f u1, un_of_read f u2]
 rw [← compare_scale _ _ (min i j - f.leastPlace).toNat, signed_units _ _ _ _ _ om om, signed_units _ _ _ _ _ om om]
theorem un_lt_iff (x y : Nat) : un f x < un f y ↔ key f x < key f y := by
 have h1 := @mag_lt_iff f (rg f x) (rg f y)
 have h2 := @mag_lt_iff f (rg f y) (rg f x)
 have h3 := le_mag f (rg f x)
 have h4 := le_mag f (rg f y)
 have h5 : rg f x = 0 → mag f (rg f x) = 0 := fun h => by rw [h, mag_zero]
 have h6 : rg f y = 0 → mag f (rg f y) = 0 := fun h => by rw [h, mag_zero]
 unfold un key
 cases sg f x <;> cases sg f y <;> simp <;> omega
theorem un_eq_iff (x y : Nat) : un f x = un f y ↔ key f x = key f y := by
 have h1 := un_lt_iff f x y
 have h2 := un_lt_iff f y x
 omega
theorem order_key (hb : f.binade ≤ f.infRung) (x y : Nat) (hx : rg f x ≤ f.infRung) (hy : rg f y ≤ f.infRung) : f.order x y = some (compare (key f x) (key f y)) := by
 have hB := binade_pos f
 by_cases h1 : rg f x < f.infRung
 ·by_cases h2 : rg f y < f.infRung
  ·rw [order_units f x y h1 h2]
   have a := un_lt_iff f x y
   have b := un_eq_iff f x y
   simp only [compare, compareOfLessAndEq, a, b]
  ·have e2 : rg f y = f.infRung := by omega
   obtain ⟨m, i, r1, l1, u1⟩ := read_fin f x h1
   unfold Format.order
   rw [r1, read_inf f y e2 hb]
   show some (if sg f y then Ordering.gt else Ordering.lt) = _
   congr 1
   unfold key
   rw [e2]
   cases sg f x <;> cases sg f y <;> first | exact (cmp_lt (by simp; omega)).symm | exact (cmp_gt (by simp; omega)).symm
 ·have e1 : rg f x = f.infRung := by omega
  by_cases h2 : rg f y < f.infRung
  ·obtain ⟨m, i, r1, l1, u1⟩ := read_fin f y h2
   unfold Format.order
   rw [r1, read_inf f x e1 hb]
   show some (if sg f x then Ordering.lt else Ordering.gt) = _
   congr 1
   unfold key
   rw [e1]
   cases sg f x <;> cases sg f y <;> first | exact (cmp_lt (by simp; omega)).symm | exact (cmp_gt (by simp; omega)).symm
  ·have e2 : rg f y = f.infRung := by omega
   unfold Format.order
   rw [read_inf f x e1 hb, read_inf f y e2 hb]
   show some (compare (sg f y).toNat (sg f x).toNat) = _
   congr 1
   unfold key
   rw [e1, e2]
   have hpos : 0 < f.infRung := by omega
   cases sg f x <;> cases sg f y <;> first | exact (cmp_lt (by simp; omega)).symm | exact (cmp_gt (by simp; omega)).symm | exact (cmp_eq (by simp)).symm
theorem order_nan (hb : f.binade ≤ f.infRung) (x y : Nat) (h : f.infRung < rg f x ∨ f.infRung < rg f y) : f.order x y = none := by
 unfold Format.order
 rcases h with h | h
 ·rw [read_nan f x h hb]; rfl
 ·rw [read_nan f y h hb]
  cases f.read x <;> rfl
theorem zz132 {p : Prop} (h : p := by
 intro h
 by_cases h0 : t < 0
 ·exact h0
 ·have := Int.mul_nonneg (show 0 ≤ t by omega) (Int.le_of_lt hp); omega) : p := h
theorem zz39 {p : Prop} (h : p := by
 rw [nearest_units f _ _ _ om, hsum]
 have hp : (0 : Int) < 2 ^ (min i j - f.leastPlace).toNat := by exact_mod_cast two_pow_pos _
 have e1 : (t * 2 ^ (min i j - f.leastPlace).toNat = 0) ↔ t = 0 := by
  constructor
  ·intro h; rcases Int.mul_eq_zero.1 h with h | h
   ·exact h
   ·omega
  ·intro h; rw [h, Int.zero_mul]
 have e2 : (t * 2 ^ (min i j - f.leastPlace).toNat < 0) ↔ t < 0 := by
  constructor
  ·exact zz132
  ·intro h; exact Int.mul_neg_of_neg_of_pos h hp
 have e3 : (t * 2 ^ (min i j - f.leastPlace).toNat).natAbs = t.natAbs * 2 ^ (min i j - f.leastPlace).toNat := by
  rw [Int.natAbs_mul, Int.natAbs_pow]; rfl
 simp only [e1, e2, e3]) : p := h
theorem add_fin (x y : Nat) (hx : rg f x < f.infRung) (hy : rg f y < f.infRung) :
 f.add x y = some (f.word (if un f x + un f y = 0 then sg f x && sg f y else decide (un f x + un f y < 0)) (rung f (un f x + un f y).natAbs)) := by
 obtain ⟨m, i, r1, l1, u1⟩ := read_fin f x hx
 obtain ⟨n, j, r2, l2, u2⟩ := read_fin f y hy
 unfold Format.add
 rw [r1, r2]
 show some (f.nearest _ _ _) = _
 generalize ht : signed (sg f x) m (i - min i j).toNat + signed (sg f y) n (j - min i j).toNat = t
 have hsum : un f x + un f y = t * 2 ^ (min i j - f.leastPlace).toNat := by
  rw [un_of_read f u1, un_of_read f u2, ← signed_units _ _ _ (min i j) _ om om, ← signed_units _ _ _ (min i j) _ om om, ← Int.add_mul, ht]
 exact zz39
theorem sub_fin (x y : Nat) (hx : rg f x < f.infRung) (hy : rg f y < f.infRung) :
 f.sub x y = some (f.word (if un f x - un f y = 0 then sg f x && !sg f y else decide (un f x - un f y < 0)) (rung f (un f x - un f y).natAbs)) := by
 obtain ⟨m, i, r1, l1, u1⟩ := read_fin f x hx
 obtain ⟨n, j, r2, l2, u2⟩ := read_fin f y hy
 unfold Format.sub
 rw [r1, r2]
 show some (f.nearest _ _ _) = _
 generalize ht : signed (sg f x) m (i - min i j).toNat + signed (!sg f y) n (j - min i j).toNat = t
 have hneg : signed (!sg f y) n (j - min i j).toNat = - signed (sg f y) n (j - min i j).toNat := by
  unfold signed; cases sg f y <;> simp
 have hsum : un f x - un f y = t * 2 ^ (min i j - f.leastPlace).toNat := by
  rw [un_of_read f u1, un_of_read f u2, ← signed_units _ _ _ (min i j) _ om om, ← signed_units _ _ _ (min i j) _ om om, ← Int.sub_mul, ← ht, hneg, Int.sub_eq_add_neg]
 exact zz39
def deep : Nat := (-f.leastPlace).toNat
theorem nearest_deep (neg : Bool) (m : Nat) (e : Int) (s : Nat) (he : f.leastPlace - s ≤ e) : f.nearest neg m e = f.word neg (min (grid f (m * 2 ^ (e - (f.leastPlace - s)).toNat) s) f.infRung) := by
 by_cases h : f.leastPlace ≤ e
 ·rw [nearest_units f neg m e h]
  unfold rung
  have : (e - (f.leastPlace - s)).toNat = (e - f.leastPlace).toNat + s := by omega
  rw [this, Nat.pow_add, ← Nat.mul_assoc]
  have g := grid_shift f (m * 2 ^ (e - f.leastPlace).toNat) s 0
  rw [Nat.zero_add] at g
  rw [g]
 ·obtain ⟨k, hk⟩ := Int.eq_ofNat_of_zero_le (show 0 ≤ f.leastPlace - e by omega)
  have he' : e = f.leastPlace - k := by omega
  rw [he', nearest_below f neg m k]
  have hks : k ≤ s := by omega
  have : (f.leastPlace - k - (f.leastPlace - s)).toNat = s - k := by omega
  rw [this]
  have g := grid_shift f m (s - k) k
  rw [show k + (s - k) = s by omega] at g
  rw [g]
theorem mul_fin (hl : f.leastPlace ≤ 0) (x y : Nat) (hx : rg f x < f.infRung) (hy : rg f y < f.infRung) :
 f.mul x y = some (f.word (sg f x ^^ sg f y) (min (grid f (mag f (rg f x) * mag f (rg f y)) (deep f)) f.infRung)) := by
 obtain ⟨m, i, r1, l1, u1⟩ := read_fin f x hx
 obtain ⟨n, j, r2, l2, u2⟩ := read_fin f y hy
 unfold Format.mul
 rw [r1, r2]
 show some (f.nearest _ _ _) = _
 have hd : ((deep f : Nat) : Int) = - f.leastPlace := by unfold deep; omega
 rw [nearest_deep f _ _ _ (deep f) om, ← u1, ← u2]
 have : (i + j - (f.leastPlace - (deep f : Nat))).toNat = (i - f.leastPlace).toNat + (j - f.leastPlace).toNat := by omega
 rw [this, Nat.pow_add]
 have : m * n * (2 ^ (i - f.leastPlace).toNat * 2 ^ (j - f.leastPlace).toNat) = m * 2 ^ (i - f.leastPlace).toNat * (n * 2 ^ (j - f.leastPlace).toNat) := by
  rw [Nat.mul_mul_mul_comm]
 rw [this]
end Go.Proofs.YtgkcpnidmfejeaaGreatDoor.Fp
namespace Go.Proofs.YtgkcpnidmfejeaaGreatDoor.Fp
open Ieee
theorem dB : double.binade = 4503599627370496 := by decide
theorem dS : double.signWeight = 9223372036854775808 := by decide
theorem dI : double.infRung = 9218868437227405312 := by decide
theorem dL : double.leastPlace = -1074 := by decide
theorem dF : 1 ≤ double.fractionBits := by decide
theorem dBI : double.binade ≤ double.infRung := by decide
theorem dL0 : double.leastPlace ≤ 0 := by decide
theorem sI : single.infRung = 2139095040 := by decide
def isNaN64 (b : Nat) : Bool := decide (9218868437227405312 < b % 9223372036854775808)
theorem rg64 (b : Nat) : rg double b = b % 9223372036854775808 := by unfold rg; rw [dS]
theorem sg64 (b : Nat) : sg double b = (b / 9223372036854775808 % 2 == 1) := by unfold sg; rw [dS]
theorem nan64_iff (b : Nat) : isNaN64 b = true ↔ double.infRung < rg double b := by unfold isNaN64; rw [dI, rg64]; simp
theorem order64_nan (x y : Nat) (h : isNaN64 x = true ∨ isNaN64 y = true) : double.order x y = none :=
 order_nan double dBI x y (h.imp (nan64_iff x).1 (nan64_iff y).1)
def key64 (b : Nat) : Int := if b / 9223372036854775808 % 2 = 1 then -((b % 9223372036854775808 : Nat) : Int) else ((b % 9223372036854775808 : Nat) : Int)
theorem key_double (b : Nat) : key double b = key64 b := by unfold key key64; rw [sg64, rg64]; simp
theorem order64 (x y : Nat) (hx : isNaN64 x = false) (hy : isNaN64 y = false) : double.order x y = some (compare (key64 x) (key64 y)) := by
 have h1 := nan64_iff x
 have h2 := nan64_iff y
 rw [hx] at h1; rw [hy] at h2
 simp at h1 h2
 rw [order_key double dBI x y om om, key_double, key_double]
theorem order64_self (x : Nat) : (double.order x x == some .eq) = !isNaN64 x := by
 cases h : isNaN64 x
 ·rw [order64 x x h h, cmp_eq rfl]; rfl
 ·rw [order64_nan x x (.inl h)]; rfl
theorem eq64 (x y : Nat) (hx : isNaN64 x = false) (hy : isNaN64 y = false) : (double.order x y == some .eq) = decide (key64 x = key64 y) := by
 rw [order64 x y hx hy]
 rcases Int.lt_trichotomy (key64 x) (key64 y) with h | h | h
 ·rw [cmp_lt h, decide_eq_false om]; rfl
 ·rw [cmp_eq h, decide_eq_true h]; rfl
 ·rw [cmp_gt h, decide_eq_false om]; rfl
theorem lt64 (x y : Nat) (hx : isNaN64 x = false) (hy : isNaN64 y = false) : (double.order x y == some .lt) = decide (key64 x < key64 y) := by
 rw [order64 x y hx hy]
 rcases Int.lt_trichotomy (key64 x) (key64 y) with h | h | h
 ·rw [cmp_lt h, decide_eq_true h]; rfl
 ·rw [cmp_eq h, decide_eq_false om]; rfl
 ·rw [cmp_gt h, decide_eq_false om]; rfl
theorem gt64 (x y : Nat) (hx : isNaN64 x = false) (hy : isNaN64 y = false) : (double.order x y == some .gt) = decide (key64 y < key64 x) := by
 rw [order64 x y hx hy]
 rcases Int.lt_trichotomy (key64 x) (key64 y) with h | h | h
 ·rw [cmp_lt h, decide_eq_false om]; rfl
 ·rw [cmp_eq h, decide_eq_false om]; rfl
 ·rw [cmp_gt h, decide_eq_true h]; rfl
end Go.Proofs.YtgkcpnidmfejeaaGreatDoor.Fp
end
namespace Go.Proofs.YtgkcpnidmfejeaaGreatDoor
open Go.RowKit
abbrev dbl : Value := .agg #[.int .u64 52, .int .i64 2047, .int .i64 1075]
def nanD (b : Nat) : Bool := decide (9218868437227405312 < b % 9223372036854775808)
def canonD (b : Nat) : Nat := if nanD b then 9221120237041090561 else b
theorem canonD_lt {b : Nat} (h : b < 18446744073709551616) : canonD b < 18446744073709551616 := by unfold canonD; split <;> omega
theorem hidden_D (w : World) : Calls Tryz.prog 341 #[dbl] w fun e w' => e = .returned (.int .u64 4503599627370496) ∧ Within w w' := by
 go_enter Tryz.func341, Tryz.ntmps341
 go_wp2
 go_ret
 exact ⟨rfl, (Within.refl _).alloc _⟩
theorem sign_D (w : World) : Calls Tryz.prog 355 #[dbl] w fun e w' => e = .returned (.int .u64 9223372036854775808) ∧ Within w w' := by
 go_enter Tryz.func355, Tryz.ntmps355
 go_wp2
 go_ret
 exact ⟨rfl, (Within.refl _).alloc _⟩
theorem infinite_D (w : World) : Calls Tryz.prog 362 #[dbl] w fun e w' => e = .returned (.int .u64 9218868437227405312) ∧ Within w w' := by
 go_enter Tryz.func362, Tryz.ntmps362
 go_wp2
 go_ret
 exact ⟨rfl, (Within.refl _).alloc _⟩
theorem none_D (w : World) : Calls Tryz.prog 340 #[dbl] w fun e w' => e = .returned (.int .u64 9221120237041090561) ∧ Within w w' := by
 go_enter Tryz.func340, Tryz.ntmps340
 go_wp2
 refine wp_region_within kr kr ?_
 repeat
  apply wpq_step rfl
  ·intro wq hCq
   have hcq := hCq.cells
   go_simp
   first | rfl | exact hCq.call (infinite_D _) | exact hCq.call (hidden_D _) | (trace_state; fail)
  simp only [Act.put, List.setIfInBounds_toArray, List.set_cons_zero, List.set_cons_succ]
 refine wpQuiet_nil ?_
 intro w1 hC1
 go_wp2
 go_ret
 exact ⟨ret_int (by decide +kernel), wi⟩
theorem nan_D (b : Nat) (hb : b < 18446744073709551616) (w : World) : Calls Tryz.prog 339 #[.int .u64 b, dbl] w fun e w' => e = .returned (.bool (nanD b)) ∧ Within w w' := by
 have e1 := u64_unsign b hb
 have ew : IntKind.u64.wrap (b : Int) = b := by rw [IntKind.wrap_u64]; omega
 go_enter Tryz.func339, Tryz.ntmps339
 go_wp2
 refine wp_region_within kr kr ?_
 repeat
  apply wpq_step rfl
  ·intro wq hCq
   have hcq := hCq.cells
   go_simp
   first | rfl | exact hCq.call (infinite_D _) | exact hCq.call (sign_D _) | (trace_state; fail)
  simp only [Act.put, List.setIfInBounds_toArray, List.set_cons_zero, List.set_cons_succ]
 refine wpQuiet_nil ?_
 intro w1 hC1
 go_wp2
 go_ret
 exact ⟨ret_dec om, wi⟩
theorem zz131 {p : Prop} (h : p := by
 have hc1 := hb1.cells; have hz1 : w.heap.size < w1.heap.size := by have := hb1.sizes; simp at this; omega
 go_wp2
 go_ret
 exact ⟨rfl, wi⟩) : p := h
theorem canon_D (b : Nat) (hb : b < 18446744073709551616) (w : World) : Calls Tryz.prog 303 #[.int .u64 b, dbl] w fun e w' => e = .returned (.int .u64 (canonD b)) ∧ Within w w' := by
 by_cases hn : nanD b = true
 ·have hv : (canonD b : Int) = 9221120237041090561 := by unfold canonD; rw [if_pos hn]; rfl
  rw [hv]; clear hv
  go_enter Tryz.func303, Tryz.ntmps303
  go_wp2_with fail
  refine (nan_D b hb _).mono ?_; rintro e w1 ⟨rfl, hb1⟩
  have hc1 := hb1.cells; have hz1 : w.heap.size < w1.heap.size := by have := hb1.sizes; simp at this; omega
  go_wp2_with fail
  refine (none_D _).mono ?_; rintro e w2 ⟨rfl, hb2⟩
  go_wp2
  go_ret
  exact ⟨rfl, wi⟩
 ·have hn' : nanD b = false := by simpa using hn
  have hv : (canonD b : Int) = b := by unfold canonD; rw [if_neg hn]
  rw [hv]; clear hv hn
  go_enter Tryz.func303, Tryz.ntmps303
  go_wp2_with fail
  refine (nan_D b hb _).mono ?_; rintro e w1 ⟨rfl, hb1⟩
  exact zz131
@[go_sem] theorem ext_bits64 (a : Nat) (w : World) : (callFunc 129 #[.float .f64 a]).run Tryz.prog w = .ok (.value (.int .u64 a)) w := by kernel_rfl
@[go_sem] theorem ext_from64 (a : Int) (w : World) : (callFunc 57 #[.int .u64 a]).run Tryz.prog w = .ok (.value (.float .f64 a.toNat)) w := by kernel_rfl
theorem of_D (w : World) : Calls Tryz.prog 267 #[.int .i64 0] w fun e w' => e = .returned dbl ∧ Within w w' := by
 go_enter Tryz.func267, Tryz.ntmps267
 have hi : ∀ w, (Instr.index 347 (.agg #[.int .u64 52, .int .i64 2047, .int .i64 1075, .int .u64 23, .int .i64 255, .int .i64 150]) (.int .i64 0)).run Tryz.prog w = .ok dbl w := fun _ => by kernel_rfl
 go_wp2
 refine bodyPost_ret (v := dbl) (by simp [results, Tryz.results267, go_sem]) rfl ⟨rfl, ?_⟩
 exact wi
theorem len8_size : Lib.len8tab.size = 256 := by decide +kernel
theorem len8_all : ∀ n : Fin 256, (Lib.len8tab[n.val]'(by rw [len8_size]; exact n.isLt)).toNat = Lib.bitLen n.val := by decide +kernel
theorem len8_at (n : Nat) (h : n < Lib.len8tab.size) : (Lib.len8tab[n]).toNat = Lib.bitLen n := len8_all ⟨n, by rw [len8_size] at h; exact h⟩
theorem len_end (s x : Nat) (hs : s ≤ 56) (h : 2 ^ s ≤ x) (hx : x < 2 ^ (s + 8)) : wrap64 ((s : Int) + wrap64 ((Lib.bitLen (x / 2 ^ s) : Nat) : Int)) = ((Lib.bitLen x : Nat) : Int) := by
 have hp := Nat.two_pow_pos s
 have h64 : x < 2 ^ 64 := Nat.lt_of_lt_of_le hx (Nat.pow_le_pow_right dc om)
 have e := Lib.bitLen_shift s x h h64
 have hq : x / 2 ^ s < 256 := by
  rw [Nat.div_lt_iff_lt_mul hp]
  have : 2 ^ (s + 8) = 256 * 2 ^ s := by rw [Nat.pow_add, Nat.mul_comm]
  omega
 have l := Lib.bitLen_le8 ⟨x / 2 ^ s, hq⟩
 simp only at l
 rw [e]
 generalize Lib.bitLen (x / 2 ^ s) = r at *
 rw [IntWalk.wrap64_in (r : Int) (by constructor <;> omega), IntWalk.wrap64_in _ (by constructor <;> omega)]
 simp
theorem len_e56 (x : Nat) (h : 72057594037927936 ≤ x) (hx : x < 18446744073709551616) : wrap64 (56 + wrap64 ((Lib.bitLen (x / 72057594037927936) : Nat) : Int)) = ((Lib.bitLen x : Nat) : Int) := len_end 56 x dc h hx
theorem len_e48 (x : Nat) (h : 281474976710656 ≤ x) (hx : x < 72057594037927936) : wrap64 (48 + wrap64 ((Lib.bitLen (x / 281474976710656) : Nat) : Int)) = ((Lib.bitLen x : Nat) : Int) := len_end 48 x dc h hx
theorem len_e40 (x : Nat) (h : 1099511627776 ≤ x) (hx : x < 281474976710656) : wrap64 (40 + wrap64 ((Lib.bitLen (x / 1099511627776) : Nat) : Int)) = ((Lib.bitLen x : Nat) : Int) := len_end 40 x dc h hx
theorem len_e32 (x : Nat) (h : 4294967296 ≤ x) (hx : x < 1099511627776) : wrap64 (32 + wrap64 ((Lib.bitLen (x / 4294967296) : Nat) : Int)) = ((Lib.bitLen x : Nat) : Int) := len_end 32 x dc h hx
theorem len_e24 (x : Nat) (h : 16777216 ≤ x) (hx : x < 4294967296) : wrap64 (24 + wrap64 ((Lib.bitLen (x / 16777216) : Nat) : Int)) = ((Lib.bitLen x : Nat) : Int) := len_end 24 x dc h hx
theorem len_e16 (x : Nat) (h : 65536 ≤ x) (hx : x < 16777216) : wrap64 (16 + wrap64 ((Lib.bitLen (x / 65536) : Nat) : Int)) = ((Lib.bitLen x : Nat) : Int) := len_end 16 x dc h hx
theorem len_e8 (x : Nat) (h : 256 ≤ x) (hx : x < 65536) : wrap64 (8 + wrap64 ((Lib.bitLen (x / 256) : Nat) : Int)) = ((Lib.bitLen x : Nat) : Int) := len_end 8 x dc h hx
theorem len_e0 (x : Nat) (hx : x < 256) : wrap64 (0 + wrap64 ((Lib.bitLen x : Nat) : Int)) = ((Lib.bitLen x : Nat) : Int) := by
 have l := Lib.bitLen_le8 ⟨x, hx⟩
 simp only at l
 generalize Lib.bitLen x = r at *
 rw [IntWalk.wrap64_in (r : Int) (by constructor <;> omega), IntWalk.wrap64_in _ (by constructor <;> omega)]
 simp
theorem bits_len64' (x : Int) (w : World) (h0 : 0 ≤ x) (h1 : x ≤ 18446744073709551615) :
 Calls Tryz.prog 353 #[.int .u64 x] w fun e w' => e = .returned (.int .i64 (Lib.bitLen x.toNat)) ∧ w = w' := by
 have hsz := len8_size
 go_enter Tryz.func353, Tryz.ntmps353
 go_wp2
 all_goals (go_ret; refine ⟨ret_int ?_, rfl⟩)
 all_goals simp only [len8_at]
 ·rw [← len_e56 x.toNat om om, show (x / 4294967296 / 65536 / 256).toNat = x.toNat / 72057594037927936 by omega]
 ·rw [← len_e48 x.toNat om om, show (x / 4294967296 / 65536).toNat = x.toNat / 281474976710656 by omega]
 ·rw [← len_e40 x.toNat om om, show (x / 4294967296 / 256).toNat = x.toNat / 1099511627776 by omega]
 ·rw [← len_e32 x.toNat om om, show (x / 4294967296).toNat = x.toNat / 4294967296 by omega]
 ·rw [← len_e24 x.toNat om om, show (x / 65536 / 256).toNat = x.toNat / 16777216 by omega]
 ·rw [← len_e16 x.toNat om om, show (x / 65536).toNat = x.toNat / 65536 by omega]
 ·rw [← len_e8 x.toNat om om, show (x / 256).toNat = x.toNat / 256 by omega]
 ·have := len_e0 x.toNat om; simpa using this
theorem bits_len64 (x : Nat) (hx : x < 18446744073709551616) (w : World) :
 Calls Tryz.prog 353 #[.int .u64 x] w fun e w' => e = .returned (.int .i64 (Lib.bitLen x)) ∧ w = w' := by
 have := bits_len64' (x : Int) w om om
 rwa [Int.toNat_natCast] at this
theorem bitLen_of (k x : Nat) (hk : k < 64) (h1 : 2 ^ k ≤ x) (h2 : x < 2 ^ (k + 1)) : Lib.bitLen x = k + 1 := by
 have h64 : x < 2 ^ 64 := Nat.lt_of_lt_of_le h2 (Nat.pow_le_pow_right dc om)
 rw [Lib.bitLen_shift k x h1 h64]
 have hp := Nat.two_pow_pos k
 have e : x / 2 ^ k = 1 := by
  have a : 1 ≤ x / 2 ^ k := (Nat.le_div_iff_mul_le hp).2 om
  have b : x / 2 ^ k < 2 := (Nat.div_lt_iff_lt_mul hp).2 (by rw [Nat.pow_succ] at h2; omega)
  omega
 rw [e]; rfl
theorem bitLen_zero : Lib.bitLen 0 = 0 := rfl
theorem bitLen_log2 (x : Nat) (h : x ≠ 0) (hx : x < 18446744073709551616) : Lib.bitLen x = x.log2 + 1 :=
 bitLen_of _ x ((Nat.log2_lt h).2 (by simpa using hx)) (Nat.log2_self_le h) Nat.lt_log2_self
theorem ctz_split (x : Nat) (h : x ≠ 0) (hx : x < 18446744073709551616) : ∃ m, x = 2 ^ Lib.ctz 64 x * (2 * m + 1) ∧ Lib.ctz 64 x < 64 := by
 have e : Lib.ctz 64 x = Lib.ctzFrom 64 x := by simp [Lib.ctz, h]
 rw [e]
 exact Lib.ctzFrom_spec 64 x om (by simpa using hx)
theorem shr_u64 (x k : Nat) (hk : k < 64) : Op.shift .shr .u64 (x : Int) .i64 (k : Int) = pure (.int .u64 ((x / 2 ^ k : Nat) : Int)) := by
 rw [shift_shr .u64 .i64 _ _ om (by show (k : Int) ≤ 64; omega)]
 simp
theorem shl_u64 (x k : Nat) (hk : k < 64) (h : x * 2 ^ k < 18446744073709551616) : Op.shift .shl .u64 (x : Int) .i64 (k : Int) = pure (.int .u64 ((x * 2 ^ k : Nat) : Int)) := by
 rw [shift_shl .u64 .i64 _ _ om (by show (k : Int) ≤ 64; omega), IntKind.wrap_u64]
 have e : (x : Int) * 2 ^ (k : Int).toNat = ((x * 2 ^ k : Nat) : Int) := by simp
 rw [e]
 generalize x * 2 ^ k = y at *
 rw [show ((y : Int) % 18446744073709551616) = y by omega]
theorem odd_unique {a b m n : Nat} (h : 2 ^ a * (2 * m + 1) = 2 ^ b * (2 * n + 1)) : a = b ∧ m = n := by
 have key : ∀ a b m n : Nat, a ≤ b → 2 ^ a * (2 * m + 1) = 2 ^ b * (2 * n + 1) → a = b ∧ m = n := by
  intro a b m n hab h
  obtain ⟨d, rfl⟩ : ∃ d, b = a + d := ⟨b - a, by omega⟩
  rw [Nat.pow_add, Nat.mul_assoc] at h
  have h' := Nat.eq_of_mul_eq_mul_left (Nat.two_pow_pos a) h
  cases d with
  | zero => simp at h'; exact ⟨rfl, by omega⟩
  | succ d =>
   rw [Nat.pow_succ, Nat.mul_comm (2 ^ d) 2, Nat.mul_assoc] at h'
   omega
 rcases Nat.le_total a b with hab | hab
 ·exact key a b m n hab h
 ·obtain ⟨h1, h2⟩ := key b a n m hab h.symm
  exact ⟨h1.symm, h2.symm⟩
theorem ctz_eq {x k m : Nat} (h : x = 2 ^ k * (2 * m + 1)) (hx : x < 18446744073709551616) : Lib.ctz 64 x = k := by
 have h0 : x ≠ 0 := by
  have := Nat.two_pow_pos k
  have : 0 < 2 ^ k * (2 * m + 1) := Nat.mul_pos this om
  omega
 obtain ⟨m', h1, _⟩ := ctz_split x h0 hx
 rw [h] at h1
 have := (odd_unique h1).1
 rw [h]; exact this.symm
def Tab (w : World) : Prop := ∀ j, j < 64 → w.cell? ⟨2, j, none⟩ = some (.int .u8 (Lib.deBruijn64tab.getD j 0))
theorem Tab.of {w w' : World} (h : Tab w) (k : Within w w') : Tab w' := fun j hj => by
 rw [k.cells _ _ (World.block_lt_of_cell? w _ (h j hj))]
 exact h j hj
theorem tz64_core (x k idx : Nat) (w : World) (hx0 : ((x : Int) == 0) = false)
 (key : IntKind.u64.wrap (bits BinOp.and IntKind.u64 (x : Int) (IntKind.u64.wrap (-(x : Int))) * 285870213051353865) / 288230376151711744 = (idx : Int))
 (hi : idx < 64) (hk : k < 64) (hcell : w.cell? ⟨2, idx, none⟩ = some (.int .u8 k)) :
 Calls Tryz.prog 342 #[.int .u64 x] w fun e w' => e = .returned (.int .i64 k) ∧ w = w' := by
 go_enter Tryz.func342, Tryz.ntmps342
 go_wp2_with (simp only [key])
 go_ret
 exact ⟨rfl, rfl⟩
theorem tz64_zero (w : World) :
 Calls Tryz.prog 342 #[.int .u64 0] w fun e w' => e = .returned (.int .i64 64) ∧ w = w' := by
 go_enter Tryz.func342, Tryz.ntmps342
 go_wp2
 go_ret
 exact ⟨rfl, rfl⟩
theorem tz64_key (x a : Nat) (hx : x < 18446744073709551616) (hx0 : x ≠ 0) (hlow : x &&& (18446744073709551616 - x) = a) :
 IntKind.u64.wrap (bits BinOp.and IntKind.u64 (x : Int) (IntKind.u64.wrap (-(x : Int))) * 285870213051353865) / 288230376151711744 = ((a * 285870213051353865 % 18446744073709551616 / 288230376151711744 : Nat) : Int) := by
 have e1 : IntKind.u64.wrap (-(x : Int)) = ((18446744073709551616 - x : Nat) : Int) := by rw [IntKind.wrap_u64]; omega
 rw [e1, u64_and_nat x _ hx om, hlow, IntKind.wrap_u64]
 omega
theorem bits_tz64 (x : Nat) (hx : x < 18446744073709551616) (w : World) (hT : Tab w) :
 Calls Tryz.prog 342 #[.int .u64 x] w fun e w' => e = .returned (.int .i64 (Lib.ctz 64 x)) ∧ w = w' := by
 by_cases hx0 : x = 0
 ·subst hx0
  exact tz64_zero w
 ·obtain ⟨hlow, hk⟩ := Lib.lowest_bit 64 x hx0 hx
  obtain ⟨hi, htab⟩ := Lib.deBruijn64_at _ hk
  have hcell := hT _ hi
  rw [htab] at hcell
  exact tz64_core x _ _ w (by simp; omega) (tz64_key x _ hx hx0 hlow) hi hk hcell
end Go.Proofs.YtgkcpnidmfejeaaGreatDoor
