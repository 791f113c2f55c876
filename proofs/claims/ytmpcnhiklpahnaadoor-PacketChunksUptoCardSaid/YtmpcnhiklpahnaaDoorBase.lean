/- Small laws for walks: worlds that only grow; regions that draw their order, walked once; bits of words. -/
import Derived.Test.YtmpcnhiklpahnaaDoorRows
import Derived.WalkKit
import Derived.WalkSpells
import Derived.WalkLawsBesides
import Derived.BigQuiet
import Derived.Lib.Hide
namespace Go.Proofs.YtmpcnhiklpahnaaDoor
open Go.RowKit

/-- of what was there in W nothing has turned in w -/
def Within (W w : World) : Prop := Below W.heap.size W w
theorem Within.refl (W : World) : Within W W := Below.refl _ _
theorem Within.trans {a b c : World} (h : Within a b) (k : Within b c) : Within a c := Below.trans h (Below.mono k h.size)
theorem Within.alloc {a w : World} (h : Within a w) (o : Obj) : Within a (w.alloc o) := Below.alloc h h.size o
theorem Within.drew {a w : World} (h : Within a w) : Within a w.drew := Below.drew h
theorem Within.drewN {a w : World} (h : Within a w) : ∀ n, Within a (w.drewN n) := fun _ => ⟨h.os, h.tape, h.output, h.size, h.block⟩
theorem Within.setCell {a w : World} (h : Within a w) {p : Addr} (hp : a.heap.size ≤ p.block) (u : Value) : Within a (w.setCell p u) := Below.setCell h hp u
theorem Within.cells {W w : World} (h : Within W w) : ∀ b o, b < W.heap.size → w.cell? ⟨b, o, none⟩ = W.cell? ⟨b, o, none⟩ := fun b o hb => h.cell (p := ⟨b, o, none⟩) hb
theorem Within.frozens {W w : World} (h : Within W w) : ∀ b o, b < W.heap.size → w.frozen? ⟨b, o, none⟩ = W.frozen? ⟨b, o, none⟩ := fun b o hb => h.frozen (p := ⟨b, o, none⟩) hb
theorem Within.sizes {W w : World} (h : Within W w) : W.heap.size ≤ w.heap.size := h.size
theorem Within.call {P : Program} {W w : World} (h : Within W w) {f : FuncId} {args : Array Value} {v : Value}
    (hc : Calls P f args w fun e w' => e = .returned v ∧ Within w w') : Calls P f args w fun e w' => e = .returned v ∧ Within W w' :=
  hc.mono fun _ _ ⟨he, hb⟩ => ⟨he, h.trans hb⟩
theorem Within.same {P : Program} {W w : World} (h : Within W w) {f : FuncId} {args : Array Value} {v : Value}
    (hc : Calls P f args w fun e w' => e = .returned v ∧ w = w') : Calls P f args w fun e w' => e = .returned v ∧ Within W w' :=
  hc.mono fun _ _ ⟨he, hb⟩ => ⟨he, hb ▸ h⟩

section
variable {P : Program} {ops : Array Oper} {Q : Act → Prop} {a : Act} {o : Oper} {rest : List Oper} {v : Value}
/-- a region that draws its order, one walk in the order of the text; whatever the callees make -/
theorem wp_region_within {id : Nat} {Q : Exit → Act → World → Prop} {w : World} {l : List Oper} (hm : P.follows .mixedOrders = true) (hB : Region.lexB .any l.toArray = true)
    (h : wpQuiet P l.toArray (Within w) (fun a' => ∀ w', Within w w' → Q .normal a' w') l a) : (Code.region id l.toArray true).wp P Q a w :=
  wp_region_quiet (C := Within w) hm hB (Within.refl w).drew (by simpa using h)
theorem wpq_step {C : World → Prop} (hg : o.guard = none) (h1 : ∀ w, C w → o.quietAt P a C w v) (h2 : wpQuiet P ops C Q rest (a.put o.dst v)) : wpQuiet P ops C Q (o :: rest) a :=
  wpQuiet_step fun K hK => by
    rw [if_pos (by simp [Region.wanted, hg])]
    exact ⟨v, h1, hK _ h2⟩
theorem wpq_want {C : World → Prop} (hg : Region.wanted o (yielded ops a.tmps) = true) (h1 : ∀ w, C w → o.quietAt P a C w v) (h2 : wpQuiet P ops C Q rest (a.put o.dst v)) : wpQuiet P ops C Q (o :: rest) a :=
  wpQuiet_step fun K hK => by
    rw [if_pos hg]
    exact ⟨v, h1, hK _ h2⟩
theorem wpq_skip {C : World → Prop} (hg : Region.wanted o (yielded ops a.tmps) = false) (h2 : wpQuiet P ops C Q rest (a.put o.dst undef)) : wpQuiet P ops C Q (o :: rest) a :=
  wpQuiet_step fun K hK => by
    rw [if_neg (by rw [hg]; exact Bool.false_ne_true)]
    exact hK _ h2
end

theorem ret_int {k : IntKind} {a b : Int} (h : a = b) : Ending.returned (.int k a) = .returned (.int k b) := by rw [h]
theorem ret_float {k : FloatKind} {a b : Nat} (h : a = b) : Ending.returned (.float k a) = .returned (.float k b) := by rw [h]
theorem ret_bool {a b : Bool} (h : a = b) : Ending.returned (.bool a) = .returned (.bool b) := by rw [h]
theorem ret_dec {a b : Prop} [Decidable a] [Decidable b] (h : a ↔ b) : Ending.returned (.bool (decide a)) = .returned (.bool (decide b)) := by rw [decide_eq_decide.2 h]

theorem v_int {k : IntKind} {a b : Int} (h : a = b) : Value.int k a = .int k b := by rw [h]
theorem v_bool {a b : Bool} (h : a = b) : Value.bool a = .bool b := by rw [h]
theorem v_float {k : FloatKind} {a b : Nat} (h : a = b) : Value.float k a = .float k b := by rw [h]
theorem ret2 {a b c d : Value} (h1 : a = c) (h2 : b = d) : Ending.returned (.tuple #[a, b]) = .returned (.tuple #[c, d]) := by rw [h1, h2]
theorem ret3 {a b c d x y : Value} (h1 : a = c) (h2 : b = d) (h3 : x = y) : Ending.returned (.tuple #[a, b, x]) = .returned (.tuple #[c, d, y]) := by rw [h1, h2, h3]

/-! bits of words, as the walk spells them -/
theorem u64_sign (b : Nat) (hb : b < 18446744073709551616) : bits .and .u64 (b : Int) 9223372036854775808 = ((b / 9223372036854775808 * 9223372036854775808 : Nat) : Int) := by
  have h := u64_and_nat b 9223372036854775808 hb (by decide)
  have e := nat_bit 63 b
  rw [show (9223372036854775808 : Int) = ((9223372036854775808 : Nat) : Int) from rfl, h]
  rw [show (2:Nat) ^ 63 = 9223372036854775808 from rfl] at e
  rw [e]; omega
theorem u64_sign32 (b : Nat) (hb : b < 4294967296) : bits .and .u64 (b : Int) 2147483648 = ((b / 2147483648 * 2147483648 : Nat) : Int) := by
  have h := u64_and_nat b 2147483648 (by omega) (by decide)
  have e := nat_bit 31 b
  rw [show (2147483648 : Int) = ((2147483648 : Nat) : Int) from rfl, h]
  rw [show (2:Nat) ^ 31 = 2147483648 from rfl] at e
  rw [e]; omega
theorem u64_unsign (b : Nat) (hb : b < 18446744073709551616) : bits .andNot .u64 (b : Int) 9223372036854775808 = ((b % 9223372036854775808 : Nat) : Int) := by
  have h := u64_andNot_nat b 9223372036854775808 hb (by decide)
  rw [show (9223372036854775808 : Int) = ((9223372036854775808 : Nat) : Int) from rfl, h]
  rw [show 18446744073709551615 - 9223372036854775808 = 2 ^ 63 - 1 from rfl, Nat.and_two_pow_sub_one_eq_mod]
theorem u64_unsign32 (b : Nat) (hb : b < 4294967296) : bits .andNot .u64 (b : Int) 2147483648 = ((b % 2147483648 : Nat) : Int) := by
  have h := u64_andNot_nat b 2147483648 (by omega) (by decide)
  rw [show (2147483648 : Int) = ((2147483648 : Nat) : Int) from rfl, h]
  congr 1
  apply Nat.eq_of_testBit_eq
  intro i
  rw [show 18446744073709551615 - 2147483648 = 18446744071562067967 from rfl, Nat.testBit_and, show (2147483648 : Nat) = 2 ^ 31 from rfl, Nat.testBit_mod_two_pow]
  by_cases h1 : i < 32
  · have k : ∀ j, j < 32 → Nat.testBit 18446744071562067967 j = decide (j < 31) := by decide
    rw [k i h1, Bool.and_comm]
  · have : b.testBit i = false := Nat.testBit_lt_two_pow (Nat.lt_of_lt_of_le hb (by rw [show (4294967296 : Nat) = 2 ^ 32 from rfl]; exact Nat.pow_le_pow_right (by decide) (by omega)))
    rw [this]; simp
theorem u64_xsign (b : Nat) (hb : b < 18446744073709551616) : bits .xor .u64 (b : Int) 9223372036854775808 = (((b + 9223372036854775808) % 18446744073709551616 : Nat) : Int) := by
  have h := u64_xor_nat b 9223372036854775808 hb (by decide)
  rw [show (9223372036854775808 : Int) = ((9223372036854775808 : Nat) : Int) from rfl, h]
  have e : b ^^^ 9223372036854775808 = if b < 9223372036854775808 then b + 9223372036854775808 else b - 9223372036854775808 := by
    by_cases h1 : b < 9223372036854775808
    · rw [if_pos h1, Nat.xor_comm, Nat.add_comm]
      have := Nat.two_pow_add_eq_or_of_lt (i := 63) (b := b) h1 1
      rw [Nat.mul_one, show (2:Nat)^63 = 9223372036854775808 from rfl] at this
      rw [this]
      apply Nat.eq_of_testBit_eq
      intro i
      rw [Nat.testBit_xor, Nat.testBit_or, show (9223372036854775808 : Nat) = 2 ^ 63 from rfl, Nat.testBit_two_pow]
      by_cases hi : 63 = i
      · subst hi
        rw [Nat.testBit_lt_two_pow h1]; simp
      · simp [hi]
    · rw [if_neg h1]
      have h2 : b - 9223372036854775808 < 2 ^ 63 := by omega
      have := Nat.two_pow_add_eq_or_of_lt (i := 63) (b := b - 9223372036854775808) h2 1
      rw [Nat.mul_one, show (2:Nat)^63 = 9223372036854775808 from rfl] at this
      have hb' : b = 9223372036854775808 + (b - 9223372036854775808) := by omega
      conv => lhs; rw [hb', this]
      apply Nat.eq_of_testBit_eq
      intro i
      rw [Nat.testBit_xor, Nat.testBit_or, show (9223372036854775808 : Nat) = 2 ^ 63 from rfl, Nat.testBit_two_pow]
      by_cases hi : 63 = i
      · subst hi
        rw [Nat.testBit_lt_two_pow h2]; simp
      · simp [hi]
  rw [e]; split <;> omega
theorem u64_xsign32 (b : Nat) (hb : b < 4294967296) : bits .xor .u64 (b : Int) 2147483648 = (((b + 2147483648) % 4294967296 : Nat) : Int) := by
  have h := u64_xor_nat b 2147483648 (by omega) (by decide)
  rw [show (2147483648 : Int) = ((2147483648 : Nat) : Int) from rfl, h]
  have e : b ^^^ 2147483648 = if b < 2147483648 then b + 2147483648 else b - 2147483648 := by
    by_cases h1 : b < 2147483648
    · rw [if_pos h1, Nat.xor_comm, Nat.add_comm]
      have := Nat.two_pow_add_eq_or_of_lt (i := 31) (b := b) h1 1
      rw [Nat.mul_one, show (2:Nat)^31 = 2147483648 from rfl] at this
      rw [this]
      apply Nat.eq_of_testBit_eq
      intro i
      rw [Nat.testBit_xor, Nat.testBit_or, show (2147483648 : Nat) = 2 ^ 31 from rfl, Nat.testBit_two_pow]
      by_cases hi : 31 = i
      · subst hi
        rw [Nat.testBit_lt_two_pow h1]; simp
      · simp [hi]
    · rw [if_neg h1]
      have h2 : b - 2147483648 < 2 ^ 31 := by omega
      have := Nat.two_pow_add_eq_or_of_lt (i := 31) (b := b - 2147483648) h2 1
      rw [Nat.mul_one, show (2:Nat)^31 = 2147483648 from rfl] at this
      have hb' : b = 2147483648 + (b - 2147483648) := by omega
      conv => lhs; rw [hb', this]
      apply Nat.eq_of_testBit_eq
      intro i
      rw [Nat.testBit_xor, Nat.testBit_or, show (2147483648 : Nat) = 2 ^ 31 from rfl, Nat.testBit_two_pow]
      by_cases hi : 31 = i
      · subst hi
        rw [Nat.testBit_lt_two_pow h2]; simp
      · simp [hi]
  rw [e]; split <;> omega
theorem u64_mask (k : Nat) (hk : k ≤ 64) (b : Nat) (hb : b < 18446744073709551616) : bits .and .u64 (b : Int) ((2 ^ k - 1 : Nat) : Int) = ((b % 2 ^ k : Nat) : Int) := by
  have hp : 2 ^ k ≤ 18446744073709551616 := by
    rw [show (18446744073709551616 : Nat) = 2 ^ 64 from rfl]; exact Nat.pow_le_pow_right (by decide) hk
  have h0 : 0 < 2 ^ k := Nat.two_pow_pos k
  rw [u64_and_nat b _ hb (by omega), Nat.and_two_pow_sub_one_eq_mod]
theorem u64_join (i : Nat) (a b : Nat) (ha : a < 18446744073709551616) (hb : b < 18446744073709551616) (h1 : a % 2 ^ i = 0) (h2 : b < 2 ^ i) : bits .or .u64 (a : Int) (b : Int) = ((a + b : Nat) : Int) := by
  rw [u64_or_nat a b ha hb, nat_join i a b h1 h2]
end Go.Proofs.YtmpcnhiklpahnaaDoor
