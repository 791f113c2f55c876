/- Packets: chapter 21's first example: walk. -/
import Derived.Test.YtmpcnhiklpahnaaDoorPk16
import Derived.Lib.SlBytesConst
namespace Go.Proofs.YtmpcnhiklpahnaaDoor
open Go.RowKit

def awR : Rd := ⟨1, 2, 3, [4602678819172646912]⟩
def awL : List Nat := packV pf awR
theorem awR_ok : awR.Ok pf := by constructor <;> decide +kernel
theorem awL_facts : awL.length = 20 ∧ awL.getD 0 0 = 181 ∧ awL.getD 15 0 = 63 ∧ packL 1 2 3 [4602678819172646912] = awL ∧ checkV pf 1 [4602678819172646912] = 0 := by decide +kernel
theorem aw_sum : crcOf [49, 50, 51, 52, 53, 54, 55, 56, 57] = 3421780262 := by decide +kernel

end Go.Proofs.YtmpcnhiklpahnaaDoor
namespace Go.Proofs.YtmpcnhiklpahnaaDoor
open Go.RowKit

/-- a block just made reads as it was made -/
theorem SlAt.made (w : World) (xs : List Value) (E : TypeId) : SlAt (w.alloc (.cells xs.toArray E)) (some ⟨w.heap.size, 0, none⟩) xs := fun _ => by
  refine ⟨_, rfl, by simp, fun j v hv => ?_⟩
  have e : (⟨w.heap.size, 0, none⟩ : Addr).add j = ⟨w.heap.size, j, none⟩ := by
    unfold Addr.add; split
    · rename_i h; rw [h]
    · rw [Nat.zero_add]
  rw [e, World.cell?_alloc_at _ _ _ _ rfl]
  simpa using hv
theorem SlAt.made_mark (w : World) (xs : List Value) (E : TypeId) (fr : Nat × Nat) : SlAt (w.alloc (.cells xs.toArray E fr)) (some ⟨w.heap.size, 0, none⟩) xs := fun _ => by
  refine ⟨_, rfl, by simp, fun j v hv => ?_⟩
  have e : (⟨w.heap.size, 0, none⟩ : Addr).add j = ⟨w.heap.size, j, none⟩ := by
    unfold Addr.add; split
    · rename_i h; rw [h]
    · rw [Nat.zero_add]
  rw [e, World.cell?_alloc_mark]
  simpa using hv
theorem But.outs {bk : Nat} {a b c : World} (h : But bk b c) (k : Within a b) (hb : a.heap.size ≤ bk) : Within a c := ((But.in_ k).trans h).out hb
theorem gb_lt {w : World} (h : FmS w) : 1 < w.heap.size := World.block_lt_of_cell? _ _ h.1
theorem Pack_aw (w : World) (hT : FmS w) : Calls Tryd.prog 12 #[.agg #[.int .i64 1, .int .u32 2, .int .u32 3, .slice (some ⟨w.heap.size, 0, none⟩) 1 1]] (w.alloc (.cells #[.float .f64 4602678819172646912] 75)) fun e w' => ∃ ad c, e = .returned (.tuple #[.slice (some ad) 20 c, .int .i64 0]) ∧ 20 ≤ c ∧ SlAt w' (some ad) (u8v awL) ∧ Within w w' := by
  have h := Pack_any 1 2 3 (some ⟨w.heap.size, 0, none⟩) 1 [4602678819172646912] (by decide) (by decide) (by intro x hx; rw [List.mem_singleton] at hx; rw [hx]; decide) (by decide) _ (hT.of ((Within.refl w).alloc (.cells #[.float .f64 4602678819172646912] 75))) (SlAt.made w [.float .f64 4602678819172646912] 75)
  refine h.mono ?_
  rintro e w' ⟨v, rfl, hO, hW⟩
  obtain ⟨a1, _, _, a4, a5⟩ := awL_facts
  rw [a4] at hO
  obtain ⟨A, c, rfl, hc, hs, _⟩ := hO.form
  obtain ⟨ad, rfl, _, _⟩ := hs (by rw [u8v_len, a1]; decide)
  rw [a1] at hc ⊢
  refine ⟨ad, c, by rw [a5], hc, hs, Within.trans ((Within.refl w).alloc _) hW⟩
theorem Unpack_aw (ad : Addr) (c : Nat) (hc : 20 ≤ c) (w : World) (hT : FmS w) (hr : SlAt w (some ad) (u8v awL)) : Calls Tryd.prog 23 #[.slice (some ad) 20 c] w fun e w' => ∃ A' c', e = .returned (.tuple #[.agg #[.int .i64 1, .int .u32 2, .int .u32 3, .slice A' 1 c'], .int .i64 0]) ∧ Within w w' := by
  have h := Unpack_any (some ad) c awL (packV_bytes awR_ok) (by rw [awL_facts.1]; decide) (by rw [awL_facts.1]; exact hc) w hT hr
  rw [awL_facts.1] at h
  refine h.mono ?_
  rintro e w' ⟨v, rfl, hO, hW⟩
  have e0 : unpackE pf awL = 0 := unpack_pack pf_ok awR_ok
  have er : rdOf awL = awR := by unfold rdOf; rw [if_pos e0]; exact readB_packV pf_ok awR_ok
  rw [e0, er]
  rw [er] at hO
  obtain ⟨A, c, rfl, _⟩ := hO.form
  exact ⟨A, c, rfl, hW⟩
theorem Feed_aw (bk : Nat) (ad : Addr) (c : Nat) (base : Nat) (w : World) (hT : FmS w) (hg : bk ≠ 1) (hR : RdrP w bk base [] 0 0) (hb : bk < base) (hr : SlAt w (some ad) (u8v awL)) : Calls Tryd.prog 27 #[.pointer (some ⟨bk, 0, none⟩), .slice (some ad) 20 c] w fun e w' => ∃ A d, e = .returned (.slice A 1 d) ∧ RdrP w' bk w.heap.size [] 1 0 ∧ But bk w w' := by
  have h := Feed_any bk hg [] awL (fun x hx => by cases hx) (packV_bytes awR_ok) (some ad) c (by rw [awL_facts.1]; decide) 0 0 (by rw [awL_facts.1]; decide) (by rw [awL_facts.1]; decide) base w hT hR hb hr
  rw [awL_facts.1] at h
  refine h.mono ?_
  rintro e w' ⟨v, rfl, hO, hR', hB⟩
  have ef : feedV pf ([] ++ awL) = ([awR], 0, []) := feed_pack pf_ok awR_ok
  rw [ef] at hO hR'
  obtain ⟨A, d, rfl, _⟩ := hO.form
  exact ⟨A, d, rfl, hR', hB⟩

set_option maxRecDepth 100000 in
set_option maxHeartbeats 1000000 in
theorem awake_true (w : World) (hT : FmS w) : Calls Tryd.prog 21 #[] w fun e w' => e = .returned (.bool true) ∧ Within w w' := by
  have PA := Lib.hid (Pack_aw w hT)
  have HT := Lib.hid hT; clear hT
  have hfd : ∀ w : World, (Instr.field 64 (.agg #[.int .i64 1, .int .i64 0]) 0).run Tryd.prog w = .ok (.int .i64 1) w := fun _ => by kernel_rfl
  have kc := fun (w : World) (C : Array Value) (n c : Nat) => Lib.run_convert_bytes_const (P := Tryd.prog) w 26 5 C n c (by kernel_rfl) (by kernel_rfl)
  go_enter Tryd.func21, Tryd.ntmps21
  go_wp2_with fail
  refine PA.out.mono ?_; rintro e1 w1 ⟨ad, c, rfl, hc, hs, hW1⟩
  have hcell : ∀ k x, k < 20 → awL.getD k 0 = x → w1.cell? (ad.add k) = some (.int .u8 (x : Int)) := fun k x hk e => by
    obtain ⟨ad', e', _, h⟩ := hs.at (show k < awL.length by rw [awL_facts.1]; exact hk)
    obtain rfl := Option.some.inj e'; rw [← e]; exact h
  have b0 := hcell 0 181 (by decide) awL_facts.2.1
  rw [add_nought] at b0
  have b15 := hcell 15 63 (by decide) awL_facts.2.2.1
  rw [add_plain' ad (by decide)] at b15
  have SMC : Hid (Calls Tryd.prog 19 #[.slice (some ⟨w1.heap.size, 0, none⟩) 9 9] (w1.alloc (.cells #[.int .u8 49, .int .u8 50, .int .u8 51, .int .u8 52, .int .u8 53, .int .u8 54, .int .u8 55, .int .u8 56, .int .u8 57] 5 (9, 10))) fun e w' => e = .returned (.int .u32 3421780262) ∧ w1.alloc (.cells #[.int .u8 49, .int .u8 50, .int .u8 51, .int .u8 52, .int .u8 53, .int .u8 54, .int .u8 55, .int .u8 56, .int .u8 57] 5 (9, 10)) = w') := Lib.hid (by
    have := sum_any (some ⟨w1.heap.size, 0, none⟩) 9 [49, 50, 51, 52, 53, 54, 55, 56, 57] (by intro x hx; revert x; decide) (by decide) _ (SlAt.made_mark w1 (u8v [49, 50, 51, 52, 53, 54, 55, 56, 57]) 5 (9, 10))
    rw [aw_sum] at this; exact this)
  have HS := Lib.hid hs; have HCL := Lib.hid hcell; clear hs hcell
  have HC := Lib.hid hc; clear hc
  go_wp2_with fail
  refine SMC.out.mono ?_; rintro e2 w2 ⟨rfl, rfl⟩
  go_wp2_with fail
  refine (Unpack_aw ad c HC.out _ (HT.out.of (hW1.alloc _)) (HS.out.of ((Within.refl w1).alloc _))).mono ?_; rintro e3 w3 ⟨A3, c3, rfl, hW3⟩
  have hW3' : Within w w3 := (hW1.alloc _).trans hW3
  have hS3 : SlAt w3 (some ad) (u8v awL) := (HS.out.of ((Within.refl w1).alloc _)).of hW3
  have HS3 := Lib.hid hS3; clear hS3
  go_wp2_with fail
  refine (New_any _).mono ?_; rintro e4 w4 ⟨rfl, hR4, hW4⟩
  obtain ⟨W3, hW3e⟩ : ∃ W3, W3 = w3.alloc (.cells #[.int .i64 1, .int .u32 2, .int .u32 3, .slice A3 1 c3] 29) := ⟨_, rfl⟩
  rw [← hW3e] at hR4 hW4 ⊢
  have hr0 : w4.cell? ⟨w3.heap.size, 0, none⟩ = some (.int .i64 1) := (hW4.cells _ _ (by rw [hW3e]; simp)).trans (by rw [hW3e]; simp)
  have hwW : Within w W3 := by rw [hW3e]; exact hW3'.alloc _
  have hwW4 : Within w w4 := hwW.trans hW4
  have hS4 : SlAt w4 (some ad) (u8v awL) := HS3.out.of (by refine Within.trans ?_ hW4; rw [hW3e]; exact (Within.refl w3).alloc _)
  obtain ⟨bk, hbk⟩ : ∃ bk, bk = W3.heap.size := ⟨_, rfl⟩
  rw [← hbk] at hR4 ⊢
  have hbw : w.heap.size ≤ bk := by rw [hbk]; exact hwW.size
  have FD := Lib.hid (Feed_aw bk ad c _ w4 (HT.out.of hwW4) (by have := gb_lt HT.out; omega) hR4 (Nat.lt_succ_self _) hS4)
  have HR4 := Lib.hid hR4; clear hR4 hS4 hW3e hbk
  go_wp2_with fail
  refine FD.out.mono ?_; rintro e5 w5 ⟨A5, d5, rfl, hR5, hB5⟩
  have HR5 := Lib.hid hR5; clear hR5
  go_wp2_with fail
  refine (Noted_any bk _ [] 1 0 w5 HR5.out).mono ?_; rintro e6 w6 ⟨rfl, hW6⟩
  go_wp2
  go_ret
  exact ⟨rfl, Within.trans (hB5.outs hwW4 hbw) hW6⟩

end Go.Proofs.YtmpcnhiklpahnaaDoor
