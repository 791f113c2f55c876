/- Package binnacleref00, whole numbers: the lowest bit, the lowest words: walks. -/
import Derived.Test.YtifgngmebnjfkaaDoorBg9
import Derived.Test.YtifgngmebnjfkaaDoorBg6
namespace Go.Proofs.YtifgngmebnjfkaaDoor
open Go.RowKit

theorem dg_at0 (n : Nat) : (dg n).getD 0 0 = n % 4294967296 := by
  by_cases h : n = 0
  · subst h; rw [dg_zero]; rfl
  · rw [dg_pos h]; rfl
theorem dg_at1 (n : Nat) : (dg n).getD 1 0 = n / 4294967296 % 4294967296 := by
  by_cases h : n = 0
  · subst h; rw [dg_zero]; rfl
  · rw [dg_pos h]
    show (dg (n / 4294967296)).getD 0 0 = _
    rw [dg_at0]
theorem dg_len1 {n : Nat} (h : (dg n).length ≤ 1) : n < 4294967296 := by
  have := lt_of_dg n
  have h2 : 4294967296 ^ (dg n).length ≤ 4294967296 ^ 1 := Nat.pow_le_pow_right (by decide) h
  omega
theorem u32_and1 (x : Nat) (h : x < 4294967296) : bits .and .u32 (x : Int) 1 = ((x % 2 : Nat) : Int) := by
  have := u32_and_nat x 1 h (by decide)
  rw [show (2 : Nat) = 2 ^ 1 from rfl, ← Nat.and_two_pow_sub_one_eq_mod]
  exact this
set_option maxRecDepth 100000 in
set_option maxHeartbeats 600000 in
theorem Bbit_zero (x : Nat) (w : World) (hx : IntB w x 0) : Calls Tryd.prog 141 #[.pointer (some ⟨x, 0, none⟩), .int .i64 0] w (fun e w' => e = .returned (.int .u64 0) ∧ w = w') := by
  obtain ⟨A, c, c0, c1, _⟩ := hx.rd
  rw [show (dg (0 : Int).natAbs) = [] from dg_zero] at c1
  rw [show decide ((0 : Int) < 0) = false from rfl] at c0
  clear hx
  go_enter Tryd.func141, Tryd.ntmps141
  go_wp2
  go_ret
  exact ⟨rfl, rfl⟩

set_option maxRecDepth 100000 in
set_option maxHeartbeats 600000 in
theorem Bbit_pos (x k t gm c : Nat) (ht : t < 4294967296) (hk : k ≤ 1000000) (w : World) (c0 : w.cell? ⟨x, 0, none⟩ = some (.bool false)) (c1 : w.cell? ⟨x, 1, none⟩ = some (.slice (some ⟨gm, 0, none⟩) (k + 1) c)) (ct : w.cell? ⟨gm, 0, none⟩ = some (.int .u32 (t : Int))) : Calls Tryd.prog 141 #[.pointer (some ⟨x, 0, none⟩), .int .i64 0] w (fun e w' => e = .returned (.int .u64 ((t % 2 : Nat) : Int)) ∧ w = w') := by
  have ga := u32_and1 t ht
  rw [Int.natCast_emod] at ga
  clear ht
  go_enter Tryd.func141, Tryd.ntmps141
  go_wp2
  go_ret
  exact ⟨ret_int (by first | rfl | exact ga | omega), rfl⟩

theorem Bbit (x n : Nat) (hn : (dg n).length ≤ 1000000) (w : World) (hx : IntB w x (n : Int)) : Calls Tryd.prog 141 #[.pointer (some ⟨x, 0, none⟩), .int .i64 0] w (fun e w' => e = .returned (.int .u64 ((n % 2 : Nat) : Int)) ∧ w = w') := by
  by_cases h : n = 0
  · subst h; exact Bbit_zero x w hx
  · obtain ⟨A, c, c0, c1, hr⟩ := hx.rd
    rw [decide_eq_false (by omega)] at c0
    rw [Int.natAbs_natCast] at c1 hr
    obtain ⟨k, hk⟩ : ∃ k, (dg n).length = k + 1 := ⟨_, (Nat.succ_pred_eq_of_pos (dg_len_pos h)).symm⟩
    obtain ⟨g, rfl, _, ct⟩ := hr.cell (i := 0) (by omega)
    rw [hk] at c1
    rw [dg_at0] at ct
    refine (Bbit_pos x k _ g c (by omega) (by omega) w c0 c1 ct).mono fun e w' h => ⟨h.1.trans (ret_int ?_), h.2⟩
    omega

set_option maxRecDepth 100000 in
set_option maxHeartbeats 600000 in
theorem Buint64_zero (x : Nat) (A : Option Addr) (c : Nat) (w : World) (c1 : w.cell? ⟨x, 1, none⟩ = some (.slice A 0 c)) : Calls Tryd.prog 134 #[.pointer (some ⟨x, 0, none⟩)] w (fun e w' => e = .returned (.int .u64 0) ∧ w = w') := by
  go_enter Tryd.func134, Tryd.ntmps134
  go_wp2
  go_ret
  exact ⟨rfl, rfl⟩

set_option maxRecDepth 100000 in
set_option maxHeartbeats 600000 in
theorem Buint64_one (x gm c t : Nat) (ht : t < 4294967296) (w : World) (c1 : w.cell? ⟨x, 1, none⟩ = some (.slice (some ⟨gm, 0, none⟩) 1 c)) (ct : w.cell? ⟨gm, 0, none⟩ = some (.int .u32 (t : Int))) : Calls Tryd.prog 134 #[.pointer (some ⟨x, 0, none⟩)] w (fun e w' => e = .returned (.int .u64 (t : Int)) ∧ w = w') := by
  go_enter Tryd.func134, Tryd.ntmps134
  go_wp2
  go_ret
  exact ⟨rfl, rfl⟩

set_option maxRecDepth 100000 in
set_option maxHeartbeats 600000 in
theorem Buint64_more (x gm c t u k : Nat) (ht : t < 4294967296) (hu : u < 4294967296) (hk : k ≤ 1000000) (w : World) (c1 : w.cell? ⟨x, 1, none⟩ = some (.slice (some ⟨gm, 0, none⟩) (k + 2) c)) (ct : w.cell? ⟨gm, 0, none⟩ = some (.int .u32 (t : Int))) (cu : w.cell? ⟨gm, 1, none⟩ = some (.int .u32 (u : Int))) : Calls Tryd.prog 134 #[.pointer (some ⟨x, 0, none⟩)] w (fun e w' => e = .returned (.int .u64 ((t + 4294967296 * u : Nat) : Int)) ∧ w = w') := by
  have gor := Lib.hid (or_high ht hu)
  have d : (0 : Int) < (k : Int) + 2 := by omega
  have d2 : (1 : Int) < (k : Int) + 2 := by omega
  have HT := Lib.hid ht
  go_enter Tryd.func134, Tryd.ntmps134
  go_wp2
  go_ret
  exact ⟨ret_int (by first | exact gor.out | (rw [← gor.out]; simp)), rfl⟩

theorem Buint64 (x : Nat) (v : Int) (hn : (dg v.natAbs).length ≤ 1000000) (w : World) (hx : IntB w x v) : Calls Tryd.prog 134 #[.pointer (some ⟨x, 0, none⟩)] w (fun e w' => e = .returned (.int .u64 ((v.natAbs % 18446744073709551616 : Nat) : Int)) ∧ w = w') := by
  obtain ⟨A, c, c0, c1, hr⟩ := hx.rd
  clear hx c0
  generalize v.natAbs = n at *
  rcases hk : (dg n).length with _ | _ | k
  · have h0 : n = 0 := dg_eq_nil (List.eq_nil_of_length_eq_zero hk)
    rw [hk] at c1
    refine (Buint64_zero x A c w c1).mono fun e w' h => ⟨h.1.trans (ret_int ?_), h.2⟩
    omega
  · obtain ⟨g, rfl, _, ct⟩ := hr.cell (i := 0) (by omega)
    have h1 := dg_len1 (n := n) (by omega)
    rw [hk] at c1
    rw [dg_at0] at ct
    refine (Buint64_one x g c _ (by omega) w c1 ct).mono fun e w' h => ⟨h.1.trans (ret_int ?_), h.2⟩
    omega
  · obtain ⟨g, rfl, _, ct⟩ := hr.cell (i := 0) (by omega)
    obtain ⟨g', e, _, cu⟩ := hr.cell (i := 1) (by omega)
    have e' := Option.some.inj e
    injection e' with e'
    subst e'
    rw [hk] at c1
    rw [dg_at0] at ct
    rw [dg_at1] at cu
    refine (Buint64_more x g c _ _ k (by omega) (by omega) (by omega) w c1 ct cu).mono fun e w' h => ⟨h.1.trans (ret_int ?_), h.2⟩
    omega

end Go.Proofs.YtifgngmebnjfkaaDoor
