/- Package binnacleref00, whole numbers: how two magnitudes stand: walks. -/
import Derived.Test.YtifgngmebnjfkaaDoorBg2
import Derived.Deep.QuietTactic
import Derived.BigQuiet
namespace Go.Proofs.YtifgngmebnjfkaaDoor
open Go.RowKit

def CmpRel (W : World) (la lb : List Nat) (iv : Value) (wr : World) : Prop :=
  ∃ k : Nat, k ≤ la.length ∧ iv = .int .i64 ((k : Int) - 1) ∧ (∀ j, k ≤ j → la.getD j 0 = lb.getD j 0) ∧ Within W wr

set_option maxRecDepth 100000 in
set_option maxHeartbeats 600000 in
theorem Bcompare_ne (n m : Nat) (A Bv : Option Addr) (ca cb : Nat) (h : n ≠ m) (hn : n ≤ 1500000) (hm : m ≤ 1500000) (w : World) :
    Calls Tryd.prog 95 #[.slice A n ca, .slice Bv m cb] w fun e w' => e = .returned (.int .i64 (if n < m then -1 else 1)) ∧ Within w w' := by
  have d0 : ((n : Int) != m) = true := bne_iff_ne.2 (by omega)
  rcases Nat.lt_or_ge n m with hlt | hlt
  · rw [if_pos hlt]
    clear h
    go_enter Tryd.func95, Tryd.ntmps95
    go_wp2
    go_ret
    exact ⟨rfl, Within.refl _⟩
  · rw [if_neg (by omega)]
    clear h
    go_enter Tryd.func95, Tryd.ntmps95
    go_wp2
    go_ret
    exact ⟨rfl, Within.refl _⟩

set_option maxRecDepth 100000 in
set_option maxHeartbeats 600000 in
theorem Bcompare_eq (a b : Nat) (A Bv : Option Addr) (ca cb : Nat) (h : (dg b).length = (dg a).length) (ha : (dg a).length ≤ 1500000) (w : World) (hra : RowAt w A (dg a)) (hrb : RowAt w Bv (dg b)) :
    Calls Tryd.prog 95 #[.slice A (dg a).length ca, .slice Bv (dg a).length cb] w fun e w' => e = .returned (.int .i64 (cmpN a b)) ∧ Within w w' := by
  have d0 : (((dg a).length : Int) != (dg a).length) = false := bne_self_eq_false _
  have HRA := Lib.hid hra; have HRB := Lib.hid hrb; clear hra hrb
  have HL := Lib.hid h; clear h
  go_enter Tryd.func95, Tryd.ntmps95
  go_wp2
  go_loopw [5] (fun iv wr => CmpRel w (dg a) (dg b) iv wr) (fun iv _ => (intOf iv + 1).toNat)
  case atStart => exact ⟨(dg a).length, Nat.le_refl _, by simp, fun j hj => by simp [List.getD_eq_getElem?_getD, hj, HL.out], Within.refl _⟩
  case round =>
    obtain ⟨k, hk, rfl, he, hin⟩ := hrel
    have HE := Lib.hid he; clear he
    rcases k with _ | k
    · rw [show ((0 : Nat) : Int) - 1 = -1 from rfl]
      go_wp2
      go_ret
      refine ⟨ret_int ?_, hin⟩
      rw [eq_of_all (a := a) (b := b) HL.out.symm (fun j => HE.out j (Nat.zero_le _)), cmpN_eq]
    · obtain ⟨ga, rfl, hga, hca⟩ := (HRA.out.of hin).cell (i := k) (by omega)
      obtain ⟨gb, rfl, hgb, hcb⟩ := (HRB.out.of hin).cell (i := k) (by rw [HL.out]; omega)
      obtain ⟨x, hxe⟩ : ∃ x, x = (dg a).getD k 0 := ⟨_, rfl⟩
      obtain ⟨y, hye⟩ : ∃ y, y = (dg b).getD k 0 := ⟨_, rfl⟩
      rw [← hxe] at hca; rw [← hye] at hcb
      have HXE := Lib.hid hxe; have HYE := Lib.hid hye; clear hxe hye
      have e1 : ((k + 1 : Nat) : Int) - 1 = (k : Int) := by omega
      rw [e1]
      rcases Nat.lt_trichotomy x y with hxy | hxy | hxy
      · have hxx : decide ((x : Int) < y) = true := decide_eq_true (by omega)
        go_wp2
        go_quiet (fail)
        go_wp2
        go_ret
        refine ⟨ret_int ?_, hin.drewN _⟩
        rw [cmpN_lt (lt_of_top (i := k) HL.out.symm (fun j hj => HE.out j hj) (by rw [← HXE.out, ← HYE.out]; exact hxy))]
      · subst hxy
        have hxx : decide ((x : Int) < x) = false := decide_eq_false (by omega)
        have hxx2 : decide ((x : Int) > x) = false := decide_eq_false (by omega)
        go_wp2
        go_quiet (fail)
        go_wp2
        go_quiet (fail)
        go_wp2
        go_roundw
        case rel => exact ⟨k, by omega, rfl, fun j hj => by
          rcases Nat.eq_or_lt_of_le hj with h | h
          · subst h; rw [← HXE.out, ← HYE.out]
          · exact HE.out j h, hin.drewN _⟩
        case measure => simp [intOf]
      · have hxx : decide ((x : Int) < y) = false := decide_eq_false (by omega)
        have hxx2 : decide ((x : Int) > y) = true := decide_eq_true (by omega)
        go_wp2
        go_quiet (fail)
        go_wp2
        go_quiet (fail)
        go_wp2
        go_ret
        refine ⟨ret_int ?_, (hin.drewN _).drewN _⟩
        rw [cmpN_gt (lt_of_top (i := k) HL.out (fun j hj => (HE.out j hj).symm) (by rw [← HXE.out, ← HYE.out]; exact hxy))]
theorem Bcompare (a b : Nat) (A Bv : Option Addr) (ca cb : Nat) (ha : (dg a).length ≤ 1500000) (hb : (dg b).length ≤ 1500000) (w : World) (hra : RowAt w A (dg a)) (hrb : RowAt w Bv (dg b)) :
    Calls Tryd.prog 95 #[.slice A (dg a).length ca, .slice Bv (dg b).length cb] w fun e w' => e = .returned (.int .i64 (cmpN a b)) ∧ Within w w' := by
  by_cases h : (dg b).length = (dg a).length
  · rw [h]; exact Bcompare_eq a b A Bv ca cb h ha w hra hrb
  · refine (Bcompare_ne _ _ A Bv ca cb (fun e => h e.symm) ha hb w).mono ?_
    rintro e w' ⟨rfl, hb'⟩
    refine ⟨?_, hb'⟩
    rcases Nat.lt_or_ge (dg a).length (dg b).length with hlt | hlt
    · rw [if_pos hlt, cmpN_lt (lt_of_len hlt)]
    · rw [if_neg (by omega), cmpN_gt (lt_of_len (by omega))]
end Go.Proofs.YtifgngmebnjfkaaDoor
