/- Packets: readers asked: walks. -/
import Derived.Test.YtmpcnhiklpahnaaDoorPk15
namespace Go.Proofs.YtmpcnhiklpahnaaDoor
open Go.RowKit

set_option maxRecDepth 100000 in
set_option maxHeartbeats 600000 in
theorem Noted_any (bk base : Nat) (K : List Nat) (F D : Nat) (w : World) (hR : RdrP w bk base K F D) : Calls Tryd.prog 29 #[.pointer (some ⟨bk, 0, none⟩)] w fun e w' => e = .returned (.agg #[.int .i64 (F : Int), .int .i64 (D : Int)]) ∧ Within w w' := by
  obtain ⟨A, c, ⟨p0, p1, p2, p3, pff⟩, _⟩ := hR
  have hbk := World.block_lt_of_cell? _ _ p0
  go_enter Tryd.func29, Tryd.ntmps29
  go_wp2
  refine bodyPost_ret (v := .agg #[.int .i64 (F : Int), .int .i64 (D : Int)]) (by simp [results, Tryd.results29, go_sem]) rfl ⟨rfl, (by repeat (first | with_reducible exact Within.refl _ | with_reducible assumption | with_reducible refine Within.alloc ?_ _ | with_reducible refine Within.drew ?_ | with_reducible refine Within.drewN ?_ _ | with_reducible refine Within.setCell ?_ (by first | (simp; done) | (simp; omega)) _ | with_reducible refine Within.trans ?_ (by assumption)))⟩

set_option maxRecDepth 100000 in
set_option maxHeartbeats 600000 in
theorem Waiting_any (bk base : Nat) (K : List Nat) (F D : Nat) (w : World) (hR : RdrP w bk base K F D) : Calls Tryd.prog 28 #[.pointer (some ⟨bk, 0, none⟩)] w fun e w' => e = .returned (.int .i64 (K.length : Int)) ∧ w = w' := by
  obtain ⟨A, c, ⟨p0, p1, p2, p3, pff⟩, _⟩ := hR
  generalize K.length = n at p1 ⊢
  go_enter Tryd.func28, Tryd.ntmps28
  go_wp2
  go_ret
  exact ⟨rfl, rfl⟩

set_option maxRecDepth 100000 in
set_option maxHeartbeats 600000 in
theorem Noted_nil (w : World) : Calls Tryd.prog 29 #[.pointer none] w fun e w' => e = .returned (.agg #[.int .i64 0, .int .i64 0]) ∧ Within w w' := by
  go_enter Tryd.func29, Tryd.ntmps29
  go_wp2
  refine bodyPost_ret (v := .agg #[.int .i64 0, .int .i64 0]) (by simp [results, Tryd.results29, go_sem]) rfl ⟨rfl, (by repeat (first | with_reducible exact Within.refl _ | with_reducible assumption | with_reducible refine Within.alloc ?_ _ | with_reducible refine Within.drew ?_ | with_reducible refine Within.drewN ?_ _ | with_reducible refine Within.setCell ?_ (by first | (simp; done) | (simp; omega)) _ | with_reducible refine Within.trans ?_ (by assumption)))⟩

set_option maxRecDepth 100000 in
set_option maxHeartbeats 600000 in
theorem Waiting_nil (w : World) : Calls Tryd.prog 28 #[.pointer none] w fun e w' => e = .returned (.int .i64 0) ∧ w = w' := by
  go_enter Tryd.func28, Tryd.ntmps28
  go_wp2
  go_ret
  exact ⟨rfl, rfl⟩

set_option maxRecDepth 100000 in
set_option maxHeartbeats 600000 in
theorem Reset_nil (w : World) : Calls Tryd.prog 31 #[.pointer none] w fun e w' => e = .returned (.tuple #[]) ∧ w = w' := by
  go_enter Tryd.func31, Tryd.ntmps31
  go_wp2
  first | go_end0 | refine bodyPost_ret (results_none rfl _ _ _) rfl ?_
  exact ⟨rfl, rfl⟩

set_option maxRecDepth 100000 in
set_option maxHeartbeats 600000 in
theorem Feed_nil (A : Option Addr) (n c : Nat) (w : World) : Calls Tryd.prog 27 #[.pointer none, .slice A n c] w fun e w' => e = .returned (.slice none 0 0) ∧ w = w' := by
  go_enter Tryd.func27, Tryd.ntmps27
  go_wp2
  go_step3
  go_wp2
  try simp only [Exit.jump]
  try rw [Exit.noGoto_ret]
  go_ret
  exact ⟨rfl, rfl⟩

end Go.Proofs.YtmpcnhiklpahnaaDoor
