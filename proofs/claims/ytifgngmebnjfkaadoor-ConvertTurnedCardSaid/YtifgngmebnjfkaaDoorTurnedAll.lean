/- ConvertTurned, whole. -/
import Derived.Test.YtifgngmebnjfkaaDoorTurnedLaw
namespace Go.Proofs.YtifgngmebnjfkaaDoor
open Go.RowKit

/-- two noughts -/
def Nought (A : Nat) : Prop := A = 0 ∨ A = 2147483648
theorem nought_eq {A : Nat} (h : Nought A) : (FloatKind.f32.format.order A 0 == some .eq) = true ∧ isN A = false ∧ A < 4294967296 := by
  rcases h with rfl | rfl <;> decide +kernel
theorem noughtW_is (a b : Bool) (mode : Int) : Nought (noughtW a b mode) := by
  unfold noughtW; split
  · exact .inr rfl
  · exact .inl rfl
theorem neg_zero_iff {A : Int} : -A = 0 ↔ A = 0 := by omega
theorem addW_mirr {A B : Int} (na nb : Bool) {mode : Int} (hR : sumS A B ≠ 0 → Fp.Rep Ieee.double (sumS A B).natAbs) :
    (Mirr (addW A B na nb mode) (addW (-A) (-B) (!na) (!nb) (tm mode)) ∨ Nought (addW A B na nb mode) ∧ Nought (addW (-A) (-B) (!na) (!nb) (tm mode))) ∧ addF (-A) (-B) (tm mode) = addF A B mode := by
  obtain ⟨t1, t2, t3⟩ := sum_turn A B
  unfold addW addF
  rw [t1, t3]
  by_cases z : sumS A B = 0
  · have z' : -sumS A B = 0 := by omega
    simp only [if_pos z, if_pos z']
    refine ⟨.inr ⟨?_, ?_⟩, trivial⟩
    · split <;> exact noughtW_is _ _ _
    · split <;> exact noughtW_is _ _ _
  · have z' : ¬ -sumS A B = 0 := by omega
    simp only [if_neg z, if_neg z']
    obtain ⟨b1, b2, _, _⟩ := nud_bounds (L := sumL A B) z (hR z)
    obtain ⟨n1, n2, n3⟩ := nud_tu (L := sumL A B) z
    obtain ⟨s1, s2⟩ := sWord_tu (decide (sumS A B < 0)) (nudE (sumS A B)) mode b1 b2
    rw [n1, n2, n3, s1, rFlags_tu]
    exact ⟨.inl (.of s2), rfl⟩
theorem add_mirr {x y : Nat} {mode : Int} (hx : x < 4294967296) (hy : y < 4294967296) :
    (Mirr (addWd x y mode) (addWd (tuS x) (tuS y) (tm mode)) ∨ Nought (addWd x y mode) ∧ Nought (addWd (tuS x) (tuS y) (tm mode))) ∧ addFl (tuS x) (tuS y) (tm mode) = addFl x y mode := by
  unfold addWd addFl
  rw [tuS_N hx, tuS_N hy, tuS_I hx, tuS_I hy, tuS_ng hx, tuS_ng hy]
  by_cases hn : (isN x || isN y) = true
  · rw [if_pos hn, if_pos hn, if_pos hn, if_pos hn]; exact ⟨.inl .qnan, rfl⟩
  rw [if_neg hn, if_neg hn, if_neg hn, if_neg hn]
  have nx : isN x = false := by revert hn; cases isN x <;> simp
  have ny : isN y = false := by revert hn; cases isN x <;> cases isN y <;> simp
  have hg : ((!ngS x) != (!ngS y)) = (ngS x != ngS y) := by cases ngS x <;> cases ngS y <;> rfl
  rw [hg]
  cases ix : isI x
  · simp only [Bool.false_eq_true, if_false]
    cases iy : isI y
    · simp only [Bool.false_eq_true, if_false]
      obtain ⟨a, _, a2, a3, _, a5⟩ := wide_ok hx (fin_of nx ix)
      obtain ⟨b, _, b2, b3, _, b5⟩ := wide_ok hy (fin_of ny iy)
      obtain ⟨s, t, u, v, p, l, _, _, _, _, _, _, hs, _, e1, _⟩ := sum_words a2 b2 (by rw [a3]; exact a5) (by rw [b3]; exact b5)
      rw [a3, b3] at e1
      rw [uS_tu hx, uS_tu hy]
      exact addW_mirr (ngS x) (ngS y) fun _ => by rw [← e1, ← (un_nat hs).1]; exact magD_rep hs.2
    · simp only [if_true]
      rw [(infS_self _).1]; exact ⟨.inl (.of (infS_self _).2), trivial⟩
  · simp only [if_true]
    by_cases g : (isI y && (ngS x != ngS y)) = true
    · simp only [if_pos g]; exact ⟨.inl .qnan, trivial⟩
    · simp only [if_neg g]
      rw [(infS_self _).1]; exact ⟨.inl (.of (infS_self _).2), trivial⟩

theorem turned_walk (x y z : Nat) (mode : Int) (hx : x < 18446744073709551616) (hy : y < 4294967296) (hz : z < 4294967296) (_h1 : -9223372036854775808 ≤ mode) (_h2 : mode < 9223372036854775808) (w : World) (hT : FmS w) :
    Calls Tryd.prog 10 #[.int .u64 x, .int .u32 y, .int .u32 z, .int .i64 mode] w fun e' w' => e' = .returned (.bool true) ∧ Within w w' := by
  by_cases m1 : mode < 0
  · exact turned_low x y z mode (decide_eq_true m1) w hT
  by_cases m2 : mode > 4
  · exact turned_high x y z mode (decide_eq_false m1) (decide_eq_true m2) w hT
  have hmode : 0 ≤ mode ∧ mode ≤ 4 := by omega
  have ht := tm_ok hmode
  have hy' := tuS_lt hy
  have hz' := tuS_lt hz
  obtain ⟨r1, f1⟩ := nWord_mirr hx hmode
  obtain ⟨r2, f2⟩ := mul_mirr hy hz hmode
  obtain ⟨r3, f3⟩ := div_mirr hy hz hmode
  obtain ⟨r4, f4⟩ := add_mirr (mode := mode) hy hz
  have E : nErr mode = 0 := if_pos hmode
  have E' : nErr (tm mode) = 0 := if_pos ht
  have NA := Lib.hid (fun w h => Narrow_any x mode hx w h)
  have NB := Lib.hid (fun w h => Narrow_any (tuD x) (tm mode) (tuD_lt hx) w h)
  rw [E] at NA
  rw [E', f1] at NB
  have MA := Lib.hid (fun w h => Mul_known y z mode hy hz hmode w h)
  have MB := Lib.hid (fun w h => Mul_known (tuS y) z (tm mode) hy' hz ht w h)
  rw [f2] at MB
  have DA := Lib.hid (fun w h => Div_known y z mode hy hz hmode w h)
  have DB := Lib.hid (fun w h => Div_known y (tuS z) (tm mode) hy hz' ht w h)
  rw [f3] at DB
  have AA := Lib.hid (fun w h => Add_known y z mode hy hz hmode w h)
  have AB := Lib.hid (fun w h => Add_known (tuS y) (tuS z) (tm mode) hy' hz' ht w h)
  rw [f4] at AB
  have M1 := Lib.hid (fun w => mirror_true r1 w)
  have M2 := Lib.hid (fun w => mirror_true r2 w)
  have M3 := Lib.hid (fun w => mirror_true r3 w)
  have go := fun (M4 : Hid (∀ w, Calls Tryd.prog 52 #[.float .f32 (addWd y z mode), .float .f32 (addWd (tuS y) (tuS z) (tm mode))] w fun e' w' => e' = .returned (.bool true) ∧ w = w')) =>
    turned_mirror x y z (tuD x) (tuS y) (tuS z) _ _ _ _ _ _ _ _ mode (tm mode) _ _ _ _ (decide_eq_false m1) (decide_eq_false m2) (neg_tuD hx) (neg_tuS hy) (neg_tuS hz) (Lib.hid fun w => turned_any mode w) NA NB M1 MA MB M2 DA DB M3 AA AB M4 w hT
  rcases r4 with r4 | ⟨n7, n8⟩
  · exact go (Lib.hid fun w => mirror_true r4 w)
  · obtain ⟨a1, a2, a3⟩ := nought_eq n7
    obtain ⟨b1, b2, b3⟩ := nought_eq n8
    by_cases g : tuS (addWd y z mode) = addWd (tuS y) (tuS z) (tm mode)
    · exact go (Lib.hid fun w => mirror_true (.inr ⟨a2, a3, g.symm⟩) w)
    · exact turned_zero x y z (tuD x) (tuS y) (tuS z) _ _ _ _ _ _ _ _ mode (tm mode) _ _ _ _ (decide_eq_false m1) (decide_eq_false m2) (neg_tuD hx) (neg_tuS hy) (neg_tuS hz) (Lib.hid fun w => turned_any mode w) NA NB M1 MA MB M2 DA DB M3 AA AB (Lib.hid fun w => mirror_false a2 a3 g w) a1 b1 w hT
end Go.Proofs.YtifgngmebnjfkaaDoor
