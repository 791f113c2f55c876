/- The places of numbers: what Next and Unkey turn them into (no program in sight). -/
import Derived.Test.YthjaponkbodooaaDoorAna7
namespace Go.Proofs.YthjaponkbodooaaDoor

theorem nanD_of {r : Nat} (h : r % 9223372036854775808 ≤ 9218868437227405312) : nanD r = false := decide_eq_false (by omega)
theorem place_pos {r : Nat} (h : r ≤ 9218868437227405312) : place r = r := by
  unfold place; rw [if_neg (by rw [nanD_of (by omega)]; simp), if_neg (by omega)]
theorem place_neg {r : Nat} (h : 9223372036854775808 ≤ r) (h' : r ≤ 18442240474082181120) : place r = -1 - ((r - 9223372036854775808 : Nat) : Int) := by
  unfold place; rw [if_neg (by rw [nanD_of (by omega)]; simp), if_pos h]
theorem place_cases {c : Nat} (hc : c < 18446744073709551616) (hn : nanD c = false) :
    (c ≤ 9218868437227405312 ∧ place c = c) ∨ (9223372036854775808 ≤ c ∧ c ≤ 18442240474082181120 ∧ place c = -1 - ((c - 9223372036854775808 : Nat) : Int)) := by
  have h := nanD_false hn
  by_cases hs : 9223372036854775808 ≤ c
  · exact .inr ⟨hs, by omega, place_neg hs (by omega)⟩
  · exact .inl ⟨by omega, place_pos (by omega)⟩
theorem place_nan {c : Nat} (hn : nanD c = true) : place c = 9218868437227405313 := by unfold place; rw [if_pos hn]

theorem place_next {c : Nat} (hc : c < 18446744073709551616) (hn : nanD c = false) (hz : c ≠ 9223372036854775808) (hp : place c < 9218868437227405312) :
    place (nextD c) = place c + 1 ∧ nanD (nextD c) = false ∧ nextD c < 18446744073709551616 := by
  have h1 : c ≠ 9221120237041090561 := fun e => by rw [e] at hn; exact absurd hn (by decide)
  unfold nextD
  rw [canonD_id hn]
  rcases place_cases hc hn with ⟨h, e⟩ | ⟨h, h', e⟩
  · rw [e] at hp ⊢
    rw [if_neg (by omega)]
    by_cases h0 : c % 9223372036854775808 = 0
    · rw [if_pos h0]
      have : c = 0 := by omega
      subst this
      exact ⟨by decide, by decide, by omega⟩
    · rw [if_neg h0, if_neg (by omega)]
      exact ⟨by rw [place_pos (by omega)]; omega, nanD_of (by omega), by omega⟩
  · rw [if_neg (by omega), if_neg (by omega), if_pos h, e]
    exact ⟨by rw [place_neg (by omega) (by omega)]; omega, nanD_of (by omega), by omega⟩

theorem place_unkey {k : Int} (hlo : -9218868437227405313 ≤ k) (hhi : k ≤ 9218868437227405312) : place (unkeyB k) = k ∧ nanD (unkeyB k) = false ∧ unkeyB k < 18446744073709551616 := by
  unfold unkeyB
  rw [if_neg (by omega), if_neg (by omega)]
  split
  · exact ⟨by rw [place_neg (by omega) (by omega)]; omega, nanD_of (by omega), by omega⟩
  · exact ⟨by rw [place_pos (by omega)]; omega, nanD_of (by omega), by omega⟩

theorem unkey_place {a : Nat} (ha : a < 18446744073709551616) (hn : nanD a = false) : unkeyB (place a) = a := by
  unfold unkeyB
  rcases place_cases ha hn with ⟨h, e⟩ | ⟨h, h', e⟩
  · rw [e, if_neg (by omega), if_neg (by omega), if_neg (by omega)]; omega
  · rw [e, if_neg (by omega), if_neg (by omega), if_pos (by omega)]; omega

theorem unkey_lt (k : Int) : unkeyB k < 18446744073709551616 := by
  by_cases h : 9218868437227405313 < k ∨ k < -9218868437227405313
  · unfold unkeyB; rw [if_pos h]; omega
  · by_cases h' : 9218868437227405312 < k
    · unfold unkeyB; rw [if_neg h, if_pos h']; omega
    · exact (place_unkey (by omega) (by omega)).2.2

theorem unkey_canon (k : Int) : canonD (unkeyB k) = unkeyB k := by
  by_cases h : 9218868437227405313 < k ∨ k < -9218868437227405313
  · unfold unkeyB; rw [if_pos h]; decide
  · by_cases h' : 9218868437227405312 < k
    · unfold unkeyB; rw [if_neg h, if_pos h']; decide
    · exact canonD_id (place_unkey (by omega) (by omega)).2.1

theorem place_inj {a b : Nat} (ha : a < 18446744073709551616) (hb : b < 18446744073709551616) (hna : nanD a = false) (hnb : nanD b = false) (h : place a = place b) : a = b := by
  rcases place_cases ha hna with ⟨_, e⟩ | ⟨_, _, e⟩ <;> rcases place_cases hb hnb with ⟨_, e'⟩ | ⟨_, _, e'⟩ <;> omega

end Go.Proofs.YthjaponkbodooaaDoor
