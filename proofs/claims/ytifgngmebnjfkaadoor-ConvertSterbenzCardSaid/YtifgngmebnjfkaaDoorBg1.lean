/- Package binnacleref00, whole numbers: noughts cut off, a number laid: walks. -/
import Derived.Test.YtifgngmebnjfkaaDoorBigm
import Derived.LoopTactic
import Derived.Outline
import Derived.IntWalk
namespace Go.Proofs.YtifgngmebnjfkaaDoor
open Go.RowKit

theorem lastWord (l : List Nat) : ∃ j, j ≤ l.length ∧ (∀ i, j ≤ i → l.getD i 0 = 0) ∧ (0 < j → l.getD (j - 1) 0 ≠ 0) := by
  have : ∀ n, n ≤ l.length → (∀ i, n ≤ i → l.getD i 0 = 0) → ∃ j, j ≤ l.length ∧ (∀ i, j ≤ i → l.getD i 0 = 0) ∧ (0 < j → l.getD (j - 1) 0 ≠ 0) := by
    intro n
    induction n with
    | zero => intro h1 h2; exact ⟨0, h1, h2, fun h => absurd h (by omega)⟩
    | succ n ih =>
      intro h1 h2
      by_cases h : l.getD n 0 = 0
      · exact ih (by omega) (fun i hi => by
          rcases Nat.eq_or_lt_of_le hi with e | e
          · subst e; exact h
          · exact h2 i e)
      · exact ⟨n + 1, h1, h2, fun _ => by rw [Nat.add_sub_cancel]; exact h⟩
  exact this l.length (Nat.le_refl _) (fun i hi => by simp [List.getD_eq_getElem?_getD, hi])

def slen : Value → Nat | .slice _ n _ => n | _ => 0
def CutRel (l : List Nat) (A : Option Addr) (c : Nat) (m : Value) : Prop := ∃ j : Nat, j ≤ l.length ∧ m = .slice A j c ∧ ∀ i, j ≤ i → l.getD i 0 = 0

set_option maxRecDepth 100000 in
set_option maxHeartbeats 600000 in
theorem Bcut (l : List Nat) (A : Option Addr) (c : Nat) (hw : Words l) (hc : l.length ≤ c) (hl : l.length ≤ 2000000) (w : World) (hr : RowAt w A l) :
    Calls Tryd.prog 123 #[.slice A l.length c] w fun e w' => e = .returned (.slice A (dg (wval l)).length c) ∧ w = w' := by
  have HW := Lib.hid hw; have HR := Lib.hid hr; clear hw hr
  go_enter Tryd.func123, Tryd.ntmps123
  go_wp2
  go_loop [0] (fun m => CutRel l A c m) (fun m => slen m)
  case atStart => exact ⟨l.length, Nat.le_refl _, rfl, fun i hi => by simp [List.getD_eq_getElem?_getD, hi]⟩
  case round =>
    obtain ⟨j, hj, rfl, hz⟩ := hrel
    have HZ := Lib.hid hz; clear hz
    rcases Nat.eq_zero_or_pos j with h0 | h0
    · subst h0
      go_wp2
      go_ret
      refine ⟨?_, rfl⟩
      have := dg_cut l HW.out 0 (Nat.zero_le _) HZ.out (fun h => absurd h (by omega))
      rw [← this]; simp
    · obtain ⟨g, rfl, _, hcell⟩ := (HR.out.cell (i := j - 1) (by omega))
      obtain ⟨i, rfl⟩ : ∃ i, j = i + 1 := ⟨j - 1, by omega⟩
      rw [Nat.add_sub_cancel] at hcell
      have g1 : IntKind.i64.wrap ((↑(i + 1) : Int) - 1) = (i : Int) := by rw [IntWalk.i64_in _ (by omega)]; omega
      obtain ⟨x, hxe⟩ : ∃ x, x = l.getD i 0 := ⟨_, rfl⟩
      rw [← hxe] at hcell
      have HXE := Lib.hid hxe; clear hxe
      rcases x with _ | x
      · go_wp2
        go_round
        case rel => exact ⟨i, by omega, rfl, fun k hk => by
          rcases Nat.eq_or_lt_of_le hk with h | h
          · subst h; exact HXE.out.symm
          · exact HZ.out k h⟩
        case measure => simp [slen]
      · have hx' : (((x + 1 : Nat) : Int) == 0) = false := beq_eq_false_iff_ne.2 (by omega)
        have hx2 : ((x : Int) + 1 == 0) = false := beq_eq_false_iff_ne.2 (by omega)
        go_wp2
        go_ret
        refine ⟨?_, rfl⟩
        have := dg_cut l HW.out (i + 1) hj HZ.out (fun _ => by rw [Nat.add_sub_cancel, ← HXE.out]; omega)
        rw [← this]; simp; omega

theorem put_heap {w : World} {z : Nat} (h : IntTy w z) (b : Bool) (s : Value) : ((w.setCell ⟨z, 1, none⟩ s).setCell ⟨z, 0, none⟩ (.bool b)).heap[z]? = some (.cells #[.bool b, s] 91 (0, 0)) := by
  obtain ⟨b', s', hb⟩ := h
  simp [World.setCell, Array.getElem?_modify, hb]
theorem put_is {w : World} {z : Nat} (h : IntTy w z) (A : Option Addr) (c : Nat) (v : Int) (hc : (dg v.natAbs).length ≤ c) (hr : RowAt w A (dg v.natAbs)) :
    PutI w z v (.returned (.pointer (some ⟨z, 0, none⟩))) ((w.setCell ⟨z, 1, none⟩ (.slice A (dg v.natAbs).length c)).setCell ⟨z, 0, none⟩ (.bool (decide (v < 0)))) := by
  have g1 : w.grownBy (w.setCell ⟨z, 1, none⟩ (.slice A (dg v.natAbs).length c)) (some z) := grown_set (World.grownBy.refl _ _) _
  refine ⟨rfl, ⟨A, c, put_heap h _ _, hc, ?_⟩, grown_set g1 _⟩
  have := hr.grown h g1
  refine RowAt.setInt this ?_ _
  obtain ⟨b', s', hb⟩ := h
  exact ⟨b', (.slice A (dg v.natAbs).length c), by simp [World.setCell, Array.getElem?_modify, hb]⟩

def sgv (neg : Bool) (n : Nat) : Int := if neg then -(n : Int) else n
theorem sgv_abs (neg : Bool) (n : Nat) : (sgv neg n).natAbs = n := by unfold sgv; split <;> omega
theorem sgv_neg (neg : Bool) (n : Nat) : decide (sgv neg n < 0) = (neg && decide (0 < n)) := by
  unfold sgv; cases neg
  · simp
  · simp

set_option maxRecDepth 100000 in
set_option maxHeartbeats 600000 in
theorem Bput0 (z : Nat) (neg : Bool) (l : List Nat) (A : Option Addr) (c : Nat) (b0 : Bool) (s0 : Value) (n : Nat) (B : Bool) (w : World)
    (c0 : w.cell? ⟨z, 0, none⟩ = some (.bool b0)) (c1 : w.cell? ⟨z, 1, none⟩ = some s0) (f0 : w.frozen? ⟨z, 0, none⟩ = false) (f1 : w.frozen? ⟨z, 1, none⟩ = false)
    (hB : (neg && decide (0 < n)) = B)
    (CT : Hid (∀ w', w = w' → Calls Tryd.prog 123 #[.slice A l.length c] w' fun e w'' => e = .returned (.slice A n c) ∧ w' = w'')) :
    Calls Tryd.prog 97 #[.pointer (some ⟨z, 0, none⟩), .bool neg, .slice A l.length c] w fun e w' => e = .returned (.pointer (some ⟨z, 0, none⟩)) ∧ (w.setCell ⟨z, 1, none⟩ (.slice A n c)).setCell ⟨z, 0, none⟩ (.bool B) = w' := by
  have hn : neg = true → ∀ k : Nat, (decide ((k : Int) > 0)) = decide (0 < k) := fun _ k => by simp
  cases neg
  · simp only [Bool.false_and] at hB
    subst hB
    go_enter Tryd.func97, Tryd.ntmps97
    go_wp2_with fail
    refine (CT.out _ rfl).mono ?_; rintro e1 w1 ⟨rfl, rfl⟩
    go_wp2
    go_ret
    exact ⟨rfl, rfl⟩
  · simp only [Bool.true_and] at hB
    subst hB
    go_enter Tryd.func97, Tryd.ntmps97
    go_wp2_with fail
    refine (CT.out _ rfl).mono ?_; rintro e1 w1 ⟨rfl, rfl⟩
    go_wp2
    go_ret
    exact ⟨rfl, rfl⟩
theorem Bput (z : Nat) (neg : Bool) (l : List Nat) (A : Option Addr) (c : Nat) (hw : Words l) (hc : l.length ≤ c) (hl : l.length ≤ 2000000) (w : World) (hr : RowAt w A l) (hz : IntTy w z) :
    Calls Tryd.prog 97 #[.pointer (some ⟨z, 0, none⟩), .bool neg, .slice A l.length c] w (PutI w z (sgv neg (wval l))) := by
  obtain ⟨b0, s0, c0, c1⟩ := hz.cells
  have hle : (dg (wval l)).length ≤ l.length := dg_len_le (wval_lt l hw)
  refine (Bput0 z neg l A c b0 s0 (dg (wval l)).length (decide (sgv neg (wval l) < 0)) w c0 c1 (hz.frozen 0) (hz.frozen 1) ?_ (Lib.hid fun w' e => e ▸ Bcut l A c hw hc hl w hr)).mono ?_
  · rw [sgv_neg]
    congr 1
    rw [decide_eq_decide]
    constructor
    · intro h
      rcases Nat.eq_zero_or_pos (wval l) with h0 | h0
      · rw [h0, dg_zero] at h; simp at h
      · exact h0
    · intro h; exact dg_len_pos (by omega)
  · rintro e w' ⟨rfl, rfl⟩
    have := put_is hz A c (sgv neg (wval l)) (by rw [sgv_abs]; omega) (by
      rw [sgv_abs]
      intro hpos
      have hne : wval l ≠ 0 := fun h => by rw [h, dg_zero] at hpos; simp at hpos
      obtain ⟨j, hj, hjj⟩ : ∃ j, j ≤ l.length ∧ l.take j = dg (wval l) := by
        obtain ⟨j, hj, h1, h2⟩ : ∃ j, j ≤ l.length ∧ (∀ i, j ≤ i → l.getD i 0 = 0) ∧ (0 < j → l.getD (j - 1) 0 ≠ 0) := lastWord l
        exact ⟨j, hj, dg_cut l hw j hj h1 h2⟩
      rw [← hjj] at hpos ⊢
      exact hr.take j hpos)
    rw [sgv_abs] at this
    exact this
end Go.Proofs.YtifgngmebnjfkaaDoor
