/- Package binnacleref02: goesUp: walks. -/
import Derived.Test.YtifgngmebnjfkaaDoorRf3
namespace Go.Proofs.YtifgngmebnjfkaaDoor
open Go.RowKit

/-- what was cut off is rounded away from 0 -/
def upB (ng : Bool) (q : Nat) (c mode : Int) : Bool :=
  if mode = 0 then decide (0 < c) || (decide (c = 0) && decide (q % 2 = 1))
  else if mode = 1 then decide (0 ≤ c)
  else if mode = 3 then !ng && decide (-2 < c)
  else if mode = 4 then ng && decide (-2 < c)
  else false

set_option maxRecDepth 100000 in
set_option maxHeartbeats 600000 in
theorem Rgoes_o (ng : Bool) (g q : Nat) (c mode : Int) (h0 : (mode == 0) = false) (h1 : (mode == 1) = false) (h3 : (mode == 3) = false) (h4 : (mode == 4) = false) (w : World) : Calls Tryd.prog 131 #[.bool ng, .pointer (some ⟨g, 0, none⟩), .int .i64 c, .int .i64 mode] w (fun e w' => e = .returned (.bool (upB ng q c mode)) ∧ Within w w') := by
  have e : upB ng q c mode = false := by unfold upB; rw [if_neg (beq_eq_false_iff_ne.1 h0), if_neg (beq_eq_false_iff_ne.1 h1), if_neg (beq_eq_false_iff_ne.1 h3), if_neg (beq_eq_false_iff_ne.1 h4)]
  rw [e]
  go_enter Tryd.func131, Tryd.ntmps131
  go_wp2
  go_ret
  exact ⟨rfl, Within.refl _⟩

set_option maxRecDepth 100000 in
set_option maxHeartbeats 600000 in
theorem Rgoes_0_0 (ng : Bool) (g q : Nat) (w : World) : Calls Tryd.prog 131 #[.bool ng, .pointer (some ⟨g, 0, none⟩), .int .i64 (-2), .int .i64 0] w (fun e w' => e = .returned (.bool (upB ng q (-2) 0)) ∧ Within w w') := by
  go_enter Tryd.func131, Tryd.ntmps131
  go_wp2
  go_ret
  exact ⟨ret_bool (by simp [upB]), Within.refl _⟩

set_option maxRecDepth 100000 in
set_option maxHeartbeats 600000 in
theorem Rgoes_1_0 (ng : Bool) (g q : Nat) (w : World) : Calls Tryd.prog 131 #[.bool ng, .pointer (some ⟨g, 0, none⟩), .int .i64 (-2), .int .i64 1] w (fun e w' => e = .returned (.bool (upB ng q (-2) 1)) ∧ Within w w') := by
  go_enter Tryd.func131, Tryd.ntmps131
  go_wp2
  go_ret
  exact ⟨ret_bool (by simp [upB]), Within.refl _⟩

set_option maxRecDepth 100000 in
set_option maxHeartbeats 600000 in
theorem Rgoes_3_0_0 (g q : Nat) (w : World) : Calls Tryd.prog 131 #[.bool false, .pointer (some ⟨g, 0, none⟩), .int .i64 (-2), .int .i64 3] w (fun e w' => e = .returned (.bool (upB false q (-2) 3)) ∧ Within w w') := by
  go_enter Tryd.func131, Tryd.ntmps131
  go_wp2
  go_ret
  exact ⟨ret_bool (by simp [upB]), Within.refl _⟩

set_option maxRecDepth 100000 in
set_option maxHeartbeats 600000 in
theorem Rgoes_4_0_0 (g q : Nat) (w : World) : Calls Tryd.prog 131 #[.bool false, .pointer (some ⟨g, 0, none⟩), .int .i64 (-2), .int .i64 4] w (fun e w' => e = .returned (.bool (upB false q (-2) 4)) ∧ Within w w') := by
  go_enter Tryd.func131, Tryd.ntmps131
  go_wp2
  go_ret
  exact ⟨ret_bool (by simp [upB]), Within.refl _⟩

set_option maxRecDepth 100000 in
set_option maxHeartbeats 600000 in
theorem Rgoes_3_0_1 (g q : Nat) (w : World) : Calls Tryd.prog 131 #[.bool true, .pointer (some ⟨g, 0, none⟩), .int .i64 (-2), .int .i64 3] w (fun e w' => e = .returned (.bool (upB true q (-2) 3)) ∧ Within w w') := by
  go_enter Tryd.func131, Tryd.ntmps131
  go_wp2
  go_ret
  exact ⟨ret_bool (by simp [upB]), Within.refl _⟩

set_option maxRecDepth 100000 in
set_option maxHeartbeats 600000 in
theorem Rgoes_4_0_1 (g q : Nat) (w : World) : Calls Tryd.prog 131 #[.bool true, .pointer (some ⟨g, 0, none⟩), .int .i64 (-2), .int .i64 4] w (fun e w' => e = .returned (.bool (upB true q (-2) 4)) ∧ Within w w') := by
  go_enter Tryd.func131, Tryd.ntmps131
  go_wp2
  go_ret
  exact ⟨ret_bool (by simp [upB]), Within.refl _⟩

set_option maxRecDepth 100000 in
set_option maxHeartbeats 600000 in
theorem Rgoes_0_1 (ng : Bool) (g q : Nat) (w : World) : Calls Tryd.prog 131 #[.bool ng, .pointer (some ⟨g, 0, none⟩), .int .i64 (-1), .int .i64 0] w (fun e w' => e = .returned (.bool (upB ng q (-1) 0)) ∧ Within w w') := by
  go_enter Tryd.func131, Tryd.ntmps131
  go_wp2
  go_ret
  exact ⟨ret_bool (by simp [upB]), Within.refl _⟩

set_option maxRecDepth 100000 in
set_option maxHeartbeats 600000 in
theorem Rgoes_1_1 (ng : Bool) (g q : Nat) (w : World) : Calls Tryd.prog 131 #[.bool ng, .pointer (some ⟨g, 0, none⟩), .int .i64 (-1), .int .i64 1] w (fun e w' => e = .returned (.bool (upB ng q (-1) 1)) ∧ Within w w') := by
  go_enter Tryd.func131, Tryd.ntmps131
  go_wp2
  go_ret
  exact ⟨ret_bool (by simp [upB]), Within.refl _⟩

set_option maxRecDepth 100000 in
set_option maxHeartbeats 600000 in
theorem Rgoes_3_1_0 (g q : Nat) (w : World) : Calls Tryd.prog 131 #[.bool false, .pointer (some ⟨g, 0, none⟩), .int .i64 (-1), .int .i64 3] w (fun e w' => e = .returned (.bool (upB false q (-1) 3)) ∧ Within w w') := by
  go_enter Tryd.func131, Tryd.ntmps131
  go_wp2
  go_ret
  exact ⟨ret_bool (by simp [upB]), Within.refl _⟩

set_option maxRecDepth 100000 in
set_option maxHeartbeats 600000 in
theorem Rgoes_4_1_0 (g q : Nat) (w : World) : Calls Tryd.prog 131 #[.bool false, .pointer (some ⟨g, 0, none⟩), .int .i64 (-1), .int .i64 4] w (fun e w' => e = .returned (.bool (upB false q (-1) 4)) ∧ Within w w') := by
  go_enter Tryd.func131, Tryd.ntmps131
  go_wp2
  go_ret
  exact ⟨ret_bool (by simp [upB]), Within.refl _⟩

set_option maxRecDepth 100000 in
set_option maxHeartbeats 600000 in
theorem Rgoes_3_1_1 (g q : Nat) (w : World) : Calls Tryd.prog 131 #[.bool true, .pointer (some ⟨g, 0, none⟩), .int .i64 (-1), .int .i64 3] w (fun e w' => e = .returned (.bool (upB true q (-1) 3)) ∧ Within w w') := by
  go_enter Tryd.func131, Tryd.ntmps131
  go_wp2
  go_ret
  exact ⟨ret_bool (by simp [upB]), Within.refl _⟩

set_option maxRecDepth 100000 in
set_option maxHeartbeats 600000 in
theorem Rgoes_4_1_1 (g q : Nat) (w : World) : Calls Tryd.prog 131 #[.bool true, .pointer (some ⟨g, 0, none⟩), .int .i64 (-1), .int .i64 4] w (fun e w' => e = .returned (.bool (upB true q (-1) 4)) ∧ Within w w') := by
  go_enter Tryd.func131, Tryd.ntmps131
  go_wp2
  go_ret
  exact ⟨ret_bool (by simp [upB]), Within.refl _⟩

set_option maxRecDepth 100000 in
set_option maxHeartbeats 600000 in
theorem Rgoes_1_2 (ng : Bool) (g q : Nat) (w : World) : Calls Tryd.prog 131 #[.bool ng, .pointer (some ⟨g, 0, none⟩), .int .i64 0, .int .i64 1] w (fun e w' => e = .returned (.bool (upB ng q 0 1)) ∧ Within w w') := by
  go_enter Tryd.func131, Tryd.ntmps131
  go_wp2
  go_ret
  exact ⟨ret_bool (by simp [upB]), Within.refl _⟩

set_option maxRecDepth 100000 in
set_option maxHeartbeats 600000 in
theorem Rgoes_3_2_0 (g q : Nat) (w : World) : Calls Tryd.prog 131 #[.bool false, .pointer (some ⟨g, 0, none⟩), .int .i64 0, .int .i64 3] w (fun e w' => e = .returned (.bool (upB false q 0 3)) ∧ Within w w') := by
  go_enter Tryd.func131, Tryd.ntmps131
  go_wp2
  go_ret
  exact ⟨ret_bool (by simp [upB]), Within.refl _⟩

set_option maxRecDepth 100000 in
set_option maxHeartbeats 600000 in
theorem Rgoes_4_2_0 (g q : Nat) (w : World) : Calls Tryd.prog 131 #[.bool false, .pointer (some ⟨g, 0, none⟩), .int .i64 0, .int .i64 4] w (fun e w' => e = .returned (.bool (upB false q 0 4)) ∧ Within w w') := by
  go_enter Tryd.func131, Tryd.ntmps131
  go_wp2
  go_ret
  exact ⟨ret_bool (by simp [upB]), Within.refl _⟩

set_option maxRecDepth 100000 in
set_option maxHeartbeats 600000 in
theorem Rgoes_3_2_1 (g q : Nat) (w : World) : Calls Tryd.prog 131 #[.bool true, .pointer (some ⟨g, 0, none⟩), .int .i64 0, .int .i64 3] w (fun e w' => e = .returned (.bool (upB true q 0 3)) ∧ Within w w') := by
  go_enter Tryd.func131, Tryd.ntmps131
  go_wp2
  go_ret
  exact ⟨ret_bool (by simp [upB]), Within.refl _⟩

set_option maxRecDepth 100000 in
set_option maxHeartbeats 600000 in
theorem Rgoes_4_2_1 (g q : Nat) (w : World) : Calls Tryd.prog 131 #[.bool true, .pointer (some ⟨g, 0, none⟩), .int .i64 0, .int .i64 4] w (fun e w' => e = .returned (.bool (upB true q 0 4)) ∧ Within w w') := by
  go_enter Tryd.func131, Tryd.ntmps131
  go_wp2
  go_ret
  exact ⟨ret_bool (by simp [upB]), Within.refl _⟩

set_option maxRecDepth 100000 in
set_option maxHeartbeats 600000 in
theorem Rgoes_0_3 (ng : Bool) (g q : Nat) (w : World) : Calls Tryd.prog 131 #[.bool ng, .pointer (some ⟨g, 0, none⟩), .int .i64 1, .int .i64 0] w (fun e w' => e = .returned (.bool (upB ng q 1 0)) ∧ Within w w') := by
  go_enter Tryd.func131, Tryd.ntmps131
  go_wp2
  go_ret
  exact ⟨ret_bool (by simp [upB]), Within.refl _⟩

set_option maxRecDepth 100000 in
set_option maxHeartbeats 600000 in
theorem Rgoes_1_3 (ng : Bool) (g q : Nat) (w : World) : Calls Tryd.prog 131 #[.bool ng, .pointer (some ⟨g, 0, none⟩), .int .i64 1, .int .i64 1] w (fun e w' => e = .returned (.bool (upB ng q 1 1)) ∧ Within w w') := by
  go_enter Tryd.func131, Tryd.ntmps131
  go_wp2
  go_ret
  exact ⟨ret_bool (by simp [upB]), Within.refl _⟩

set_option maxRecDepth 100000 in
set_option maxHeartbeats 600000 in
theorem Rgoes_3_3_0 (g q : Nat) (w : World) : Calls Tryd.prog 131 #[.bool false, .pointer (some ⟨g, 0, none⟩), .int .i64 1, .int .i64 3] w (fun e w' => e = .returned (.bool (upB false q 1 3)) ∧ Within w w') := by
  go_enter Tryd.func131, Tryd.ntmps131
  go_wp2
  go_ret
  exact ⟨ret_bool (by simp [upB]), Within.refl _⟩

set_option maxRecDepth 100000 in
set_option maxHeartbeats 600000 in
theorem Rgoes_4_3_0 (g q : Nat) (w : World) : Calls Tryd.prog 131 #[.bool false, .pointer (some ⟨g, 0, none⟩), .int .i64 1, .int .i64 4] w (fun e w' => e = .returned (.bool (upB false q 1 4)) ∧ Within w w') := by
  go_enter Tryd.func131, Tryd.ntmps131
  go_wp2
  go_ret
  exact ⟨ret_bool (by simp [upB]), Within.refl _⟩

set_option maxRecDepth 100000 in
set_option maxHeartbeats 600000 in
theorem Rgoes_3_3_1 (g q : Nat) (w : World) : Calls Tryd.prog 131 #[.bool true, .pointer (some ⟨g, 0, none⟩), .int .i64 1, .int .i64 3] w (fun e w' => e = .returned (.bool (upB true q 1 3)) ∧ Within w w') := by
  go_enter Tryd.func131, Tryd.ntmps131
  go_wp2
  go_ret
  exact ⟨ret_bool (by simp [upB]), Within.refl _⟩

set_option maxRecDepth 100000 in
set_option maxHeartbeats 600000 in
theorem Rgoes_4_3_1 (g q : Nat) (w : World) : Calls Tryd.prog 131 #[.bool true, .pointer (some ⟨g, 0, none⟩), .int .i64 1, .int .i64 4] w (fun e w' => e = .returned (.bool (upB true q 1 4)) ∧ Within w w') := by
  go_enter Tryd.func131, Tryd.ntmps131
  go_wp2
  go_ret
  exact ⟨ret_bool (by simp [upB]), Within.refl _⟩

set_option maxRecDepth 100000 in
set_option maxHeartbeats 600000 in
theorem Rgoes_0_2a (ng : Bool) (g q : Nat) (hq : (dg q).length ≤ 1000000) (hb : q % 2 = 0) (w : World) (hI : IntB w g (q : Int)) : Calls Tryd.prog 131 #[.bool ng, .pointer (some ⟨g, 0, none⟩), .int .i64 0, .int .i64 0] w (fun e w' => e = .returned (.bool (upB ng q 0 0)) ∧ Within w w') := by
  have BB := Lib.hid (Bbit g q hq w hI)
  rw [hb] at BB
  have HB := Lib.hid hb; clear hb hI hq
  go_enter Tryd.func131, Tryd.ntmps131
  go_wp2_with fail
  refine BB.out.mono ?_; rintro e1 w1 ⟨rfl, rfl⟩
  go_wp2
  go_ret
  exact ⟨ret_bool (by simp [upB, HB.out]), Within.refl _⟩

set_option maxRecDepth 100000 in
set_option maxHeartbeats 600000 in
theorem Rgoes_0_2b (ng : Bool) (g q : Nat) (hq : (dg q).length ≤ 1000000) (hb : q % 2 = 1) (w : World) (hI : IntB w g (q : Int)) : Calls Tryd.prog 131 #[.bool ng, .pointer (some ⟨g, 0, none⟩), .int .i64 0, .int .i64 0] w (fun e w' => e = .returned (.bool (upB ng q 0 0)) ∧ Within w w') := by
  have BB := Lib.hid (Bbit g q hq w hI)
  rw [hb] at BB
  have HB := Lib.hid hb; clear hb hI hq
  go_enter Tryd.func131, Tryd.ntmps131
  go_wp2_with fail
  refine BB.out.mono ?_; rintro e1 w1 ⟨rfl, rfl⟩
  go_wp2
  go_ret
  exact ⟨ret_bool (by simp [upB, HB.out]), Within.refl _⟩

theorem Rgoes (ng : Bool) (g q : Nat) (c mode : Int) (hc : c = -2 ∨ c = -1 ∨ c = 0 ∨ c = 1) (hq : (dg q).length ≤ 1000000) (w : World) (hI : IntB w g (q : Int)) : Calls Tryd.prog 131 #[.bool ng, .pointer (some ⟨g, 0, none⟩), .int .i64 c, .int .i64 mode] w (fun e w' => e = .returned (.bool (upB ng q c mode)) ∧ Within w w') := by
  by_cases h0 : mode = 0
  · subst h0
    rcases hc with rfl | rfl | rfl | rfl
    · exact Rgoes_0_0 ng g q w
    · exact Rgoes_0_1 ng g q w
    · rcases Nat.mod_two_eq_zero_or_one q with hb | hb
      · exact Rgoes_0_2a ng g q hq hb w hI
      · exact Rgoes_0_2b ng g q hq hb w hI
    · exact Rgoes_0_3 ng g q w
  by_cases h1 : mode = 1
  · subst h1
    rcases hc with rfl | rfl | rfl | rfl
    · exact Rgoes_1_0 ng g q w
    · exact Rgoes_1_1 ng g q w
    · exact Rgoes_1_2 ng g q w
    · exact Rgoes_1_3 ng g q w
  by_cases h3 : mode = 3
  · subst h3
    cases ng
    · rcases hc with rfl | rfl | rfl | rfl
      · exact Rgoes_3_0_0 g q w
      · exact Rgoes_3_1_0 g q w
      · exact Rgoes_3_2_0 g q w
      · exact Rgoes_3_3_0 g q w
    · rcases hc with rfl | rfl | rfl | rfl
      · exact Rgoes_3_0_1 g q w
      · exact Rgoes_3_1_1 g q w
      · exact Rgoes_3_2_1 g q w
      · exact Rgoes_3_3_1 g q w
  by_cases h4 : mode = 4
  · subst h4
    cases ng
    · rcases hc with rfl | rfl | rfl | rfl
      · exact Rgoes_4_0_0 g q w
      · exact Rgoes_4_1_0 g q w
      · exact Rgoes_4_2_0 g q w
      · exact Rgoes_4_3_0 g q w
    · rcases hc with rfl | rfl | rfl | rfl
      · exact Rgoes_4_0_1 g q w
      · exact Rgoes_4_1_1 g q w
      · exact Rgoes_4_2_1 g q w
      · exact Rgoes_4_3_1 g q w
  exact Rgoes_o ng g q c mode (beq_eq_false_iff_ne.2 h0) (beq_eq_false_iff_ne.2 h1) (beq_eq_false_iff_ne.2 h3) (beq_eq_false_iff_ne.2 h4) w
theorem cutC_range (M s : Nat) (more : Bool) : cutC M s more = -2 ∨ cutC M s more = -1 ∨ cutC M s more = 0 ∨ cutC M s more = 1 := by
  unfold cutC cmpN
  repeat' split
  all_goals omega
end Go.Proofs.YtifgngmebnjfkaaDoor
