/- Packets: what Pack answers, in facts. -/
import Derived.Test.YtmpcnhiklpahnaaDoorPk18
namespace Go.Proofs.YtmpcnhiklpahnaaDoor
open Go.RowKit

theorem pack_is {s : Int} {q t : Nat} {l : List Nat} (hq : q < 4294967296) (ht : t < 4294967296) (hw : Words64 l) (h : checkV pf s l = 0) : ∃ n : Nat, s = n ∧ packL s q t l = packV pf ⟨n, q, t, l⟩ ∧ Rd.Ok pf ⟨n, q, t, l⟩ := by
  obtain ⟨h1, h2, h3, h4⟩ := check_parts h
  refine ⟨s.toNat, by omega, ?_, ⟨by show s.toNat < 64; omega, hq, ht, h3, hw, h4⟩⟩
  unfold packL; rw [if_pos h]
theorem frame_unpack {r : Rd} (h : r.Ok pf) : unpackE pf (packV pf r) = 0 := unpack_pack pf_ok h
theorem frame_rd {r : Rd} (h : r.Ok pf) : rdOf (packV pf r) = r := by unfold rdOf; rw [if_pos (frame_unpack h)]; exact readB_packV pf_ok h
theorem frame_len {r : Rd} (h : r.Ok pf) : 16 ≤ (packV pf r).length ∧ (packV pf r).length ≤ 64 := by
  have h1 := h.len
  rw [packV_len]
  unfold stp
  split <;> omega
/-- a reading with as many values as may be: Pack, of numbers that may be -/
theorem Pack_fit (n q t : Nat) (A : Option Addr) (c : Nat) (l : List Nat) (h : Rd.Ok pf ⟨n, q, t, l⟩) (w : World) (hT : FmS w) (hr : SlAt w A (f64v l)) :
    Calls Tryd.prog 12 #[.agg #[.int .i64 (n : Int), .int .u32 (q : Int), .int .u32 (t : Int), .slice A l.length c]] w fun e w' => ∃ v, e = .returned (.tuple #[v, .int .i64 0]) ∧ OwnB w' w.heap.size v (packV pf ⟨n, q, t, l⟩) ∧ Within w w' := by
  have hc : checkV pf (n : Int) l = 0 := by
    have h1 : n < 64 := h.sensor
    have h2 : l.length ≤ 6 := h.len
    have h3 : l.all pf.fin = true := h.fin
    unfold checkV
    rw [if_neg (by omega), if_pos h3]
  have hp := Pack_any (n : Int) q t A c l h.seq h.stamp h.lt (by have := h.len; exact Nat.le_trans this (by decide)) w hT hr
  rw [hc] at hp
  unfold packL at hp
  rw [if_pos hc] at hp
  exact hp
/-- what is Unpack of a frame -/
theorem Unpack_frame (r : Rd) (h : r.Ok pf) (A : Option Addr) (c : Nat) (hc : (packV pf r).length ≤ c) (w : World) (hT : FmS w) (hr : SlAt w A (u8v (packV pf r))) :
    Calls Tryd.prog 23 #[.slice A (packV pf r).length c] w fun e w' => ∃ v, e = .returned (.tuple #[.agg #[.int .i64 (r.sensor : Int), .int .u32 (r.seq : Int), .int .u32 (r.stamp : Int), v], .int .i64 0]) ∧ OwnF w' w.heap.size v r.vals ∧ Within w w' := by
  have hp := Unpack_any A c (packV pf r) (packV_bytes h) (Nat.le_trans (frame_len h).2 (by decide)) hc w hT hr
  rw [frame_unpack h, frame_rd h] at hp
  exact hp
theorem Rsame_self (s q t : Int) (A B : Option Addr) (c d : Nat) (l : List Nat) (hl : l.length ≤ 1152921504606846976) (w : World) (h1 : SlAt w A (f64v l)) (h2 : SlAt w B (f64v l)) : Calls Tryd.prog 25 #[.agg #[.int .i64 s, .int .u32 q, .int .u32 t, .slice A l.length c], .agg #[.int .i64 s, .int .u32 q, .int .u32 t, .slice B l.length d]] w fun e w' => e = .returned (.bool true) ∧ Within w w' := by
  have h := Rsame_any s q t s q t A B c d l l hl hl w h1 h2
  have e : sameB s q t s q t l l = true := by unfold sameB; simp
  rw [e] at h; exact h

end Go.Proofs.YtmpcnhiklpahnaaDoor
