/- Package binnacleref00, whole numbers: magnitudes shifted down: walks. -/
import Derived.Test.YtifgngmebnjfkaaDoorBg5
namespace Go.Proofs.YtifgngmebnjfkaaDoor
open Go.RowKit

def RightRel (W : World) (g : Nat) (D : List Nat) (S0 : Nat) (iv : Value) (wr : World) : Prop :=
  ∃ (k : Nat) (o : List Nat), k ≤ D.length ∧ iv = .int .i64 (k : Int) ∧ o.length = D.length ∧ Words o ∧ OwnW wr g o ∧ lo o k = wval D / 2 ^ S0 % 4294967296 ^ k ∧ Within W wr
theorem RightRel.step {W wr : World} {g : Nat} {D o : List Nat} {S0 k x y : Nat} (u q : Int) (hk : k < D.length) (hS : S0 < 32) (hD : Words D) (ho : o.length = D.length) (hwo : Words o) (hown : OwnW wr g o)
    (hval : lo o k = wval D / 2 ^ S0 % 4294967296 ^ k) (hin : Within W wr) (hx : x = D.getD k 0) (hy : y = D.getD (k + 1) 0) (hg : W.heap.size ≤ g)
    (hu : u = (((x + 4294967296 * y) / 2 ^ S0 % 4294967296 : Nat) : Int)) (hq : q = ((k + 1 : Nat) : Int)) :
    RightRel W g D S0 (.int .i64 q) (wr.setCell ⟨g, k, none⟩ (.int .u32 u)) := by
  subst hu hq
  refine ⟨k + 1, o.set k ((x + 4294967296 * y) / 2 ^ S0 % 4294967296), by omega, rfl, by rw [List.length_set]; exact ho, hwo.set _ _ (by omega), hown.set _ _ (by omega), ?_, hin.setCell hg _⟩
  rw [lo_set_succ _ _ _ (by omega), mod_succ, hval, right_digit _ S0 k D rfl hD hS, ← hx, ← hy]
theorem drop_getD (l : List Nat) (i k : Nat) : (l.drop i).getD k 0 = l.getD (i + k) 0 := by
  simp [List.getD_eq_getElem?_getD, List.getElem?_drop]
theorem or_high {x y : Nat} (hx : x < 4294967296) (hy : y < 4294967296) : bits .or .u64 (x : Int) ((y * 4294967296 : Nat) : Int) = ((x + 4294967296 * y : Nat) : Int) := by
  rw [u64_or_nat _ _ (by omega) (by omega), Nat.or_comm, nat_join 32 _ _ (by rw [show (2 : Nat) ^ 32 = 4294967296 from rfl]; omega) hx]
  congr 1; omega

set_option maxRecDepth 100000 in
set_option maxHeartbeats 600000 in
theorem Bright_pos (la : List Nat) (A : Option Addr) (ca n W0 S0 : Nat) (hwa : Words la) (hla : la.length ≤ 1500000) (h0 : W0 < la.length) (hn : n = 32 * W0 + S0) (hS : S0 < 32) (w : World) (hra : RowAt w A la) :
    Calls Tryd.prog 142 #[.slice A la.length ca, .int .u64 (n : Int)] w (RetW w (wval la / 2 ^ n)) := by
  obtain ⟨N, hN⟩ : ∃ N, la.length = W0 + N := ⟨la.length - W0, by omega⟩
  have hDl : (la.drop W0).length = N := by rw [List.length_drop]; omega
  have hmk := run_make_row' (P := Tryd.prog) 89 22 (.int .u32 0) 4 (by kernel_rfl) Tryd.infoU32 rfl .i64 .i64 N (by omega) (by omega)
  have hgt : (la.length : Int) - (W0 : Int) = (N : Int) := by omega
  have HWA := Lib.hid hwa; have HRA := Lib.hid hra; have HDL := Lib.hid hDl; clear hwa hra hDl
  have hq : (n : Int) / 32 = (W0 : Int) := by omega
  have hr : (n : Int) % 32 = (S0 : Int) := by omega
  have d0 : decide ((W0 : Int) ≥ la.length) = false := decide_eq_false (by omega)
  have HNN := Lib.hid hN; have HN := Lib.hid hn; clear hn hN
  have HM := OwnW.made w N
  go_enter Tryd.func142, Tryd.ntmps142
  go_wp2
  go_loopw [8] (fun iv wr => RightRel w w.heap.size (la.drop W0) S0 iv wr) (fun iv _ => N - (intOf iv).toNat)
  case atStart => exact ⟨0, _, Nat.zero_le _, rfl, by rw [HDL.out]; simp, Words.zeros _, HM, by rw [lo_zero]; simp [Nat.mod_one], (Within.refl w).alloc _⟩
  case round =>
    obtain ⟨k, o, hk, rfl, ho, hwo, hown, hval, hin⟩ := hrel
    rw [HDL.out] at hk ho
    have HV := Lib.hid hval; have HO := Lib.hid ho; have HWO := Lib.hid hwo; clear hval ho hwo
    rcases Nat.lt_or_ge k N with hlt | hlt
    · obtain ⟨ga, rfl, hga, hca⟩ := (HRA.out.of hin).cell (i := W0 + k) (by rw [HNN.out]; omega)
      obtain ⟨x, hxe⟩ : ∃ x, x = la.getD (W0 + k) 0 := ⟨_, rfl⟩
      have hx : x < 4294967296 := by rw [hxe]; exact HWA.out.getD _
      rw [← hxe] at hca
      have HXE := Lib.hid hxe; clear hxe
      have hco := hown.cell (i := k) (by rw [HO.out]; omega)
      have hfo := hown.frozen k
      have hstep := fun (y : Nat) (u q : Int) => RightRel.step (S0 := S0) (x := x) (y := y) u q (by rw [HDL.out]; exact hlt) hS (HWA.out.drop W0) (by rw [HDL.out]; exact HO.out) HWO.out hown HV.out hin (by rw [drop_getD]; exact HXE.out)
      have HST := Lib.hid hstep; clear hstep
      rcases Nat.lt_or_ge (k + 1) N with hlb | hlb
      · obtain ⟨gb, hgb1, hgb, hcb⟩ := (HRA.out.of hin).cell (i := W0 + k + 1) (by rw [HNN.out]; omega)
        injection hgb1 with hgb1; injection hgb1 with hgb1; subst hgb1
        obtain ⟨y, hye⟩ : ∃ y, y = la.getD (W0 + k + 1) 0 := ⟨_, rfl⟩
        have hy : y < 4294967296 := by rw [hye]; exact HWA.out.getD _
        rw [← hye] at hcb
        have HYE := Lib.hid hye; clear hye
        have gsh : IntKind.u64.wrap ((y : Int) * 4294967296) = ((y * 4294967296 : Nat) : Int) := by rw [IntKind.wrap_u64]; omega
        have gor := or_high hx hy
        have GU := Lib.hid (show bits .or .u64 (x : Int) ((y : Int) * 4294967296) / 2 ^ S0 % 4294967296 = (((x + 4294967296 * y) / 2 ^ S0 % 4294967296 : Nat) : Int) by
          rw [show (y : Int) * 4294967296 = ((y * 4294967296 : Nat) : Int) by omega, gor]; simp)
        clear gor
        have dlt : decide ((W0 : Int) + k + 1 < la.length) = true := decide_eq_true (by have := HNN.out; omega)
        go_wp2
        go_roundw
        case rel => exact HST.out y _ _ (by rw [drop_getD, ← Nat.add_assoc]; exact HYE.out) (Nat.le_refl _) GU.out (by omega)
        case measure => simp [intOf]; omega
      · have dlt : decide ((W0 : Int) + k + 1 < la.length) = false := decide_eq_false (by have := HNN.out; omega)
        go_wp2
        go_roundw
        case rel => exact HST.out 0 _ _ (by rw [drop_getD]; simp [List.getD_eq_getElem?_getD, HNN.out]; rw [List.getElem?_eq_none (by have := HNN.out; omega)]; rfl) (Nat.le_refl _) (by simp) (by omega)
        case measure => simp [intOf]; omega
    · obtain rfl : k = N := by omega
      have CT := Lib.hid (Bcut o (some ⟨w.heap.size, 0, none⟩) k HWO.out (by rw [HO.out]; exact Nat.le_refl _) (by rw [HO.out]; omega) _ hown.at)
      rw [HO.out] at CT
      go_wp2_with fail
      refine (CT.out).mono ?_; rintro e1 w1 ⟨rfl, rfl⟩
      go_wp2
      go_ret
      refine retW_cut hown.at HWO.out (by rw [HO.out]; exact Nat.le_refl _) hin ?_
      have hs := wval_split la W0
      have h1 := lo_lt la HWA.out W0
      have h2 := wval_lt _ (HWA.out.drop W0)
      rw [HDL.out] at h2
      have e : wval (la.drop W0) = wval la / 4294967296 ^ W0 := by
        rw [hs, Nat.add_mul_div_left _ _ (Nat.pow_pos (by decide)), Nat.div_eq_of_lt h1, Nat.zero_add]
      rw [← lo_all o (Nat.le_of_eq HO.out), HV.out, Nat.mod_eq_of_lt (Nat.lt_of_le_of_lt (Nat.div_le_self _ _) h2), e, Nat.div_div_eq_div_mul, HN.out, show (4294967296 : Nat) = 2 ^ 32 from rfl, ← Nat.pow_mul, ← Nat.pow_add]
set_option maxRecDepth 100000 in
set_option maxHeartbeats 600000 in
theorem Bright_nil (m : Nat) (A : Option Addr) (ca n W0 : Nat) (hW : n / 32 = W0) (h : m ≤ W0) (hn : n ≤ 40000000) (w : World) : Calls Tryd.prog 142 #[.slice A m ca, .int .u64 (n : Int)] w (RetW w 0) := by
  have hq : (n : Int) / 32 = (W0 : Int) := by omega
  have hr : (n : Int) % 32 = ((n % 32 : Nat) : Int) := by omega
  have d0 : decide ((W0 : Int) ≥ m) = true := decide_eq_true (by omega)
  clear hW
  go_enter Tryd.func142, Tryd.ntmps142
  go_wp2
  go_ret
  exact ⟨none, 0, by rw [dg_zero]; rfl, by rw [dg_zero]; exact Nat.le_refl _, by rw [dg_zero]; exact RowAt.nil, Within.refl _⟩
theorem Bright (a : Nat) (A : Option Addr) (ca n : Nat) (ha : (dg a).length ≤ 1500000) (hn : n ≤ 40000000) (w : World) (hra : RowAt w A (dg a)) :
    Calls Tryd.prog 142 #[.slice A (dg a).length ca, .int .u64 (n : Int)] w (RetW w (a / 2 ^ n)) := by
  rcases Nat.lt_or_ge (n / 32) (dg a).length with h | h
  · have := Bright_pos (dg a) A ca n (n / 32) (n % 32) (words_dg a) ha h (by omega) (by omega) w hra
    rw [wval_dg] at this
    exact this
  · have e : a / 2 ^ n = 0 := by
      apply Nat.div_eq_of_lt
      have h1 := lt_of_dg a
      have h2 : 4294967296 ^ (dg a).length ≤ 2 ^ n := by
        rw [show (4294967296 : Nat) = 2 ^ 32 from rfl, ← Nat.pow_mul]; exact Nat.pow_le_pow_right (by decide) (by omega)
      omega
    rw [e]
    exact Bright_nil _ A ca n (n / 32) rfl h hn w
end Go.Proofs.YtifgngmebnjfkaaDoor
