/- PacketSpoilt: what is changed, in facts. -/
import Derived.Test.YtmpcnhiklpahnaaDoorPk19
import Derived.Test.YtmpcnhiklpahnaaDoorMem3
import Derived.ChangeKeysEq
namespace Go.Proofs.YtmpcnhiklpahnaaDoor
open Go.RowKit

set_option maxRecDepth 100000 in
theorem quad_eq (a b c d : Int) (w : World) : (Op.equalIn 10000 54 (.agg #[.int .u8 a, .int .u8 b, .int .u8 c, .int .u8 d]) (.agg #[.int .u8 0, .int .u8 0, .int .u8 0, .int .u8 0])).run Tryd.prog w = .ok ((a == 0) && ((b == 0) && ((c == 0) && (d == 0)))) w := by
  have hi : (Tryd.prog.info? 5).isSome = true := by kernel_rfl
  obtain ⟨i, hi⟩ := Option.isSome_iff_exists.1 hi
  have hc : Tryd.prog.cellsOf 5 = 1 := by kernel_rfl
  rw [run_equalIn_array (n := 4) (e := 5) w 9999 _ _ (by kernel_rfl) hi, hc]
  have e := fun (x y : Int) (w : World) => run_equalIn_int (P := Tryd.prog) w 9998 5 .u8 .u8 x y (by kernel_rfl)
  have r4 : List.range 4 = [0, 1, 2, 3] := rfl
  rw [r4]
  simp [Op.eqItems, go_sem, e]
  by_cases ha : a = 0 <;> by_cases hb : b = 0 <;> by_cases hc : c = 0 <;> by_cases hd : d = 0 <;> simp [ha, hb, hc, hd]
/-- bytes changed from place k on, by so many of e -/
def spo (b : List Nat) (k : Nat) (e : List Nat) : Nat → List Nat
  | 0 => b
  | i + 1 => (spo b k e i).set (k + i) ((spo b k e i).getD (k + i) 0 ^^^ e.getD i 0)
theorem spo_len (b : List Nat) (k : Nat) (e : List Nat) : ∀ i, (spo b k e i).length = b.length
  | 0 => rfl
  | i + 1 => by rw [spo, List.length_set, spo_len b k e i]
theorem spo_getD (b : List Nat) (k : Nat) (e : List Nat) : ∀ i j, k + i ≤ b.length → (spo b k e i).getD j 0 = if k ≤ j ∧ j < k + i then b.getD j 0 ^^^ e.getD (j - k) 0 else b.getD j 0
  | 0, j, _ => by rw [if_neg (by omega)]; rfl
  | i + 1, j, h => by
    rw [spo]
    by_cases hj : k + i = j
    · subst hj
      rw [getD_set_same _ _ _ (by rw [spo_len]; omega), spo_getD b k e i _ (by omega), if_neg (by omega), if_pos (by omega), Nat.add_sub_cancel_left]
    · rw [getD_set_else _ _ _ _ hj, spo_getD b k e i j (by omega)]
      by_cases h1 : k ≤ j ∧ j < k + i
      · rw [if_pos h1, if_pos (by omega)]
      · rw [if_neg h1, if_neg (by omega)]
theorem Bytes.getD_lt {l : List Nat} (h : Bytes l) (i : Nat) : l.getD i 0 < 256 := by
  rcases Nat.lt_or_ge i l.length with h1 | h1
  · exact h.at h1
  · rw [getD_end h1]; decide
theorem spo_bytes {b e : List Nat} {k : Nat} (hb : Bytes b) (he : Bytes e) : ∀ i, Bytes (spo b k e i)
  | 0 => hb
  | i + 1 => fun x hx => by
    rw [spo] at hx
    rcases List.mem_or_eq_of_mem_set hx with h | rfl
    · exact spo_bytes hb he i x h
    · exact Nat.xor_lt_two_pow (n := 8) ((spo_bytes hb he i).getD_lt _) (he.getD_lt _)
theorem spo_is {b e : List Nat} {k q : Nat} (h4 : e.length = 4) (hn : b.length = k + 4 + q) : spo b k e 4 = List.zipWith (· ^^^ ·) b (List.replicate k 0 ++ e ++ List.replicate q 0) := by
  have hd : (List.replicate k 0 ++ e ++ List.replicate q 0).length = b.length := by simp only [List.length_append, List.length_replicate]; omega
  refine List.ext_getElem (by rw [spo_len, List.length_zipWith, hd, Nat.min_self]) fun j h1 h2 => ?_
  rw [spo_len] at h1
  rw [List.getElem_zipWith]
  have e1 := spo_getD b k e 4 j (by omega)
  rw [List.getD, List.getElem?_eq_getElem (by rw [spo_len]; exact h1), Option.getD_some] at e1
  rw [e1]
  have e2 : b.getD j 0 = b[j] := by rw [List.getD, List.getElem?_eq_getElem h1]; rfl
  rw [e2]
  by_cases a1 : j < k
  · rw [if_neg (by omega), List.getElem_append_left (by simp; omega), List.getElem_append_left (by simp; omega), List.getElem_replicate, Nat.xor_zero]
  · by_cases a2 : j < k + 4
    · rw [if_pos (by omega), List.getElem_append_left (by simp; omega), List.getElem_append_right (by simp; omega), List.getD, List.getElem?_eq_getElem (by omega)]
      simp
    · rw [if_neg (by omega), List.getElem_append_right (by simp; omega), List.getElem_replicate, Nat.xor_zero]
/-- a frame that is changed so is none -/
theorem spoilt_bad {r : Rd} (h : r.Ok pf) {e : List Nat} (he : Bytes e) (h4 : e.length = 4) (hne : e ≠ List.replicate 4 0) {k : Nat} (hk : k + 4 ≤ (packV pf r).length) : unpackE pf (spo (packV pf r) k e 4) ≠ 0 := by
  obtain ⟨q, hq⟩ : ∃ q, (packV pf r).length = k + 4 + q := ⟨(packV pf r).length - (k + 4), by omega⟩
  have hs := (unpackE_parts (frame_unpack h)).2.1
  intro h0
  have hs2 := (unpackE_parts h0).2.1
  rw [spo_len, show (packV pf r).length - 4 = k + q by omega] at hs2
  rw [show (packV pf r).length - 4 = k + q by omega] at hs
  rw [spo_is h4 hq] at hs2
  exact crc_spoilt (packV_bytes h) he h4 hne hq hs hs2
theorem quad_ne {a b c d : Nat} (h : ¬ (a = 0 ∧ b = 0 ∧ c = 0 ∧ d = 0)) : [a, b, c, d] ≠ List.replicate 4 0 := by
  intro e
  simp only [List.replicate] at e
  injection e with e1 e; injection e with e2 e; injection e with e3 e; injection e with e4 e
  exact h ⟨e1, e2, e3, e4⟩
/-- four cells laid side by side read as a list -/
theorem quad_cell (w : World) (a b c d : Nat) (E : TypeId) (i : Nat) (hi : i < 4) : (w.alloc (.cells #[.int .u8 (a : Int), .int .u8 (b : Int), .int .u8 (c : Int), .int .u8 (d : Int)] E)).cell? ⟨w.heap.size, i, none⟩ = some (.int .u8 (([a, b, c, d].getD i 0 : Nat) : Int)) := by
  match i, hi with
  | 0, _ => simp
  | 1, _ => simp
  | 2, _ => simp
  | 3, _ => simp

end Go.Proofs.YtmpcnhiklpahnaaDoor
