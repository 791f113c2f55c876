/- What the law's walk rests on, part 3: contracts of functions and plain facts. -/
import Derived.Test.YtjmaggfddinbkaaGreatDoorRows
import Derived.WalkKit
import Derived.WalkSpells
import Derived.WalkLawsBesides
import Derived.BigQuiet
import Derived.Lib.Hide
import Ieee.Arith
import Derived.Deep.OwnRows
import Derived.OwnWalk
import Derived.LoopTactic
import Derived.Outline
import Derived.IntWalk
import Derived.Shelf.Bits.Mul64
import Derived.Laws.Externs
import Derived.Deep.QuietTactic
import Derived.Deep.RegionWith
import Derived.OrdersHeld
import Derived.StillTail
import Derived.Deep.RegionHeld3
import Derived.Maps.AppendAt
import Derived.Lib.TrailingZeros
import Derived.Lib.BitFns
import Derived.Lib.Strings
import Derived.Lib.Slices
import Derived.Lib.Small
import Derived.Lib.Walk
import Derived.Deep.AppendLies
import Derived.Deep.Draws
import Derived.Laws.OwnMore
import Derived.Deep.DeepCutAuto
import Derived.ProofKit
import Derived.OpenShut
import Derived.ShutString
import Derived.ChangeOld
import Derived.Below
import Derived.Deep.DeepHandedRow
import Derived.Lib.LaidTab
import Derived.Test.YtjmaggfddinbkaaGreatDoorZETr2
set_option linter.unusedVariables false
set_option linter.unusedSimpArgs false
section
namespace Go.Proofs.YtjmaggfddinbkaaGreatDoor
open Go.RowKit
def RightRel (W : World) (g : Nat) (D : List Nat) (S0 : Nat) (iv : Value) (wr : World) : Prop :=
  ∃ (k : Nat) (o : List Nat), k ≤ D.length ∧ iv = .int .i64 (k : Int) ∧ o.length = D.length ∧ Words o ∧ OwnW wr g o ∧ lo o k = wval D / 2 ^ S0 % 4294967296 ^ k ∧ Within W wr
theorem RightRel.step {W wr : World} {g : Nat} {D o : List Nat} {S0 k x y : Nat} (u q : Int) (hk : k < D.length) (hS : S0 < 32) (hD : Words D) (ho : o.length = D.length) (hwo : Words o) (hown : OwnW wr g o)
    (hval : lo o k = wval D / 2 ^ S0 % 4294967296 ^ k) (hin : Within W wr) (hx : x = D.getD k 0) (hy : y = D.getD (k + 1) 0) (hg : W.heap.size ≤ g)
    (hu : u = (((x + 4294967296 * y) / 2 ^ S0 % 4294967296 : Nat) : Int)) (hq : q = ((k + 1 : Nat) : Int)) :
    RightRel W g D S0 (.int .i64 q) (wr.setCell ⟨g, k, none⟩ (.int .u32 u)) := by
  subst hu hq
  refine ⟨k + 1, o.set k ((x + 4294967296 * y) / 2 ^ S0 % 4294967296), by omega, rfl, by rw [List.length_set]; exact ho, hwo.set _ _ (by omega), hown.set _ _ (by omega), ?_, hin.setCell hg _⟩
  rw [lo_set_succ _ _ _ (by omega), mod_succ, hval, right_digit _ S0 k D rfl hD hS, ← hx, ← hy]
theorem drop_getD (l : List Nat) (i k : Nat) : (l.drop i).getD k 0 = l.getD (i + k) 0 := by
  simp [List.getD_eq_getElem?_getD, List.getElem?_drop]
theorem or_high {x y : Nat} (hx : x < 4294967296) (hy : y < 4294967296) : bits .or .u64 (x : Int) ((y * 4294967296 : Nat) : Int) = ((x + 4294967296 * y : Nat) : Int) := by
  rw [u64_or_nat _ _ (by omega) (by omega), Nat.or_comm, nat_join 32 _ _ (by rw [show (2 : Nat) ^ 32 = 4294967296 from rfl]; omega) hx]
  congr 1; omega
set_option maxRecDepth 100000 in
set_option maxHeartbeats 600000 in
theorem Bright_pos (la : List Nat) (A : Option Addr) (ca n W0 S0 : Nat) (hwa : Words la) (hla : la.length ≤ 1500000) (h0 : W0 < la.length) (hn : n = 32 * W0 + S0) (hS : S0 < 32) (w : World) (hra : RowAt w A la) :
    Calls Tryz.prog 132 #[.slice A la.length ca, .int .u64 (n : Int)] w (RetW w (wval la / 2 ^ n)) := by
  obtain ⟨N, hN⟩ : ∃ N, la.length = W0 + N := ⟨la.length - W0, by omega⟩
  have hDl : (la.drop W0).length = N := by rw [List.length_drop]; omega
  have hmk := run_make_row' (P := Tryz.prog) 100 133 (.int .u32 0) 4 (by kernel_rfl) Tryz.infoU32 rfl .i64 .i64 N (by omega) (by omega)
  have hgt : (la.length : Int) - (W0 : Int) = (N : Int) := by omega
  have HWA := Lib.hid hwa; have HRA := Lib.hid hra; have HDL := Lib.hid hDl; clear hwa hra hDl
  have hq : (n : Int) / 32 = (W0 : Int) := by omega
  have hr : (n : Int) % 32 = (S0 : Int) := by omega
  have d0 : decide ((W0 : Int) ≥ la.length) = false := decide_eq_false (by omega)
  have HNN := Lib.hid hN; have HN := Lib.hid hn; clear hn hN
  have HM := OwnW.made w N
  go_enter Tryz.func132, Tryz.ntmps132
  go_wp2
  go_loopw [8] (fun iv wr => RightRel w w.heap.size (la.drop W0) S0 iv wr) (fun iv _ => N - (intOf iv).toNat)
  case atStart => exact ⟨0, _, Nat.zero_le _, rfl, by rw [HDL.out]; simp, Words.zeros _, HM, by rw [lo_zero]; simp [Nat.mod_one], (Within.refl w).alloc _⟩
  case round =>
    obtain ⟨k, o, hk, rfl, ho, hwo, hown, hval, hin⟩ := hrel
    rw [HDL.out] at hk ho
    have HV := Lib.hid hval; have HO := Lib.hid ho; have HWO := Lib.hid hwo; clear hval ho hwo
    rcases Nat.lt_or_ge k N with hlt | hlt
    · obtain ⟨ga, rfl, hga, hca⟩ := (HRA.out.of hin).cell (i := W0 + k) (by rw [HNN.out]; omega)
      obtain ⟨x, hxe⟩ : ∃ x, x = la.getD (W0 + k) 0 := ⟨_, rfl⟩
      have hx : x < 4294967296 := by rw [hxe]; exact HWA.out.getD _
      rw [← hxe] at hca
      have HXE := Lib.hid hxe; clear hxe
      have hco := hown.cell (i := k) (by rw [HO.out]; omega)
      have hfo := hown.frozen k
      have hstep := fun (y : Nat) (u q : Int) => RightRel.step (S0 := S0) (x := x) (y := y) u q (by rw [HDL.out]; exact hlt) hS (HWA.out.drop W0) (by rw [HDL.out]; exact HO.out) HWO.out hown HV.out hin (by rw [drop_getD]; exact HXE.out)
      have HST := Lib.hid hstep; clear hstep
      rcases Nat.lt_or_ge (k + 1) N with hlb | hlb
      · obtain ⟨gb, hgb1, hgb, hcb⟩ := (HRA.out.of hin).cell (i := W0 + k + 1) (by rw [HNN.out]; omega)
        injection hgb1 with hgb1; injection hgb1 with hgb1; subst hgb1
        obtain ⟨y, hye⟩ : ∃ y, y = la.getD (W0 + k + 1) 0 := ⟨_, rfl⟩
        have hy : y < 4294967296 := by rw [hye]; exact HWA.out.getD _
        rw [← hye] at hcb
        have HYE := Lib.hid hye; clear hye
        have gsh : IntKind.u64.wrap ((y : Int) * 4294967296) = ((y * 4294967296 : Nat) : Int) := by rw [IntKind.wrap_u64]; omega
        have gor := or_high hx hy
        have GU := Lib.hid (show bits .or .u64 (x : Int) ((y : Int) * 4294967296) / 2 ^ S0 % 4294967296 = (((x + 4294967296 * y) / 2 ^ S0 % 4294967296 : Nat) : Int) by
          rw [show (y : Int) * 4294967296 = ((y * 4294967296 : Nat) : Int) by omega, gor]; simp)
        clear gor
        have dlt : decide ((W0 : Int) + k + 1 < la.length) = true := decide_eq_true (by have := HNN.out; omega)
        go_wp2
        go_roundw
        case rel => exact HST.out y _ _ (by rw [drop_getD, ← Nat.add_assoc]; exact HYE.out) (Nat.le_refl _) GU.out (by omega)
        case measure => simp [intOf]; omega
      · have dlt : decide ((W0 : Int) + k + 1 < la.length) = false := decide_eq_false (by have := HNN.out; omega)
        go_wp2
        go_roundw
        case rel => exact HST.out 0 _ _ (by rw [drop_getD]; simp [List.getD_eq_getElem?_getD, HNN.out]; rw [List.getElem?_eq_none (by have := HNN.out; omega)]; rfl) (Nat.le_refl _) (by simp) (by omega)
        case measure => simp [intOf]; omega
    · obtain rfl : k = N := by omega
      have CT := Lib.hid (Bcut o (some ⟨w.heap.size, 0, none⟩) k HWO.out (by rw [HO.out]; exact Nat.le_refl _) (by rw [HO.out]; omega) _ hown.at)
      rw [HO.out] at CT
      go_wp2_with fail
      refine (CT.out).mono ?_; rintro e1 w1 ⟨rfl, rfl⟩
      go_wp2
      go_ret
      refine retW_cut hown.at HWO.out (by rw [HO.out]; exact Nat.le_refl _) hin ?_
      have hs := wval_split la W0
      have h1 := lo_lt la HWA.out W0
      have h2 := wval_lt _ (HWA.out.drop W0)
      rw [HDL.out] at h2
      have e : wval (la.drop W0) = wval la / 4294967296 ^ W0 := by
        rw [hs, Nat.add_mul_div_left _ _ (Nat.pow_pos (by decide)), Nat.div_eq_of_lt h1, Nat.zero_add]
      rw [← lo_all o (Nat.le_of_eq HO.out), HV.out, Nat.mod_eq_of_lt (Nat.lt_of_le_of_lt (Nat.div_le_self _ _) h2), e, Nat.div_div_eq_div_mul, HN.out, show (4294967296 : Nat) = 2 ^ 32 from rfl, ← Nat.pow_mul, ← Nat.pow_add]
set_option maxRecDepth 100000 in
set_option maxHeartbeats 600000 in
theorem Bright_nil (m : Nat) (A : Option Addr) (ca n W0 : Nat) (hW : n / 32 = W0) (h : m ≤ W0) (hn : n ≤ 40000000) (w : World) : Calls Tryz.prog 132 #[.slice A m ca, .int .u64 (n : Int)] w (RetW w 0) := by
  have hq : (n : Int) / 32 = (W0 : Int) := by omega
  have hr : (n : Int) % 32 = ((n % 32 : Nat) : Int) := by omega
  have d0 : decide ((W0 : Int) ≥ m) = true := decide_eq_true (by omega)
  clear hW
  go_enter Tryz.func132, Tryz.ntmps132
  go_wp2
  go_ret
  exact ⟨none, 0, by rw [dg_zero]; rfl, by rw [dg_zero]; exact Nat.le_refl _, by rw [dg_zero]; exact RowAt.nil, Within.refl _⟩
theorem Bright (a : Nat) (A : Option Addr) (ca n : Nat) (ha : (dg a).length ≤ 1500000) (hn : n ≤ 40000000) (w : World) (hra : RowAt w A (dg a)) :
    Calls Tryz.prog 132 #[.slice A (dg a).length ca, .int .u64 (n : Int)] w (RetW w (a / 2 ^ n)) := by
  rcases Nat.lt_or_ge (n / 32) (dg a).length with h | h
  · have := Bright_pos (dg a) A ca n (n / 32) (n % 32) (words_dg a) ha h (by omega) (by omega) w hra
    rw [wval_dg] at this
    exact this
  · have e : a / 2 ^ n = 0 := by
      apply Nat.div_eq_of_lt
      have h1 := lt_of_dg a
      have h2 : 4294967296 ^ (dg a).length ≤ 2 ^ n := by
        rw [show (4294967296 : Nat) = 2 ^ 32 from rfl, ← Nat.pow_mul]; exact Nat.pow_le_pow_right (by decide) (by omega)
      omega
    rw [e]
    exact Bright_nil _ A ca n (n / 32) rfl h hn w
end Go.Proofs.YtjmaggfddinbkaaGreatDoor
end

section
namespace Go.Proofs.YtjmaggfddinbkaaGreatDoor
open Go.RowKit
theorem dg_at0 (n : Nat) : (dg n).getD 0 0 = n % 4294967296 := by
  by_cases h : n = 0
  · subst h; rw [dg_zero]; rfl
  · rw [dg_pos h]; rfl
theorem dg_at1 (n : Nat) : (dg n).getD 1 0 = n / 4294967296 % 4294967296 := by
  by_cases h : n = 0
  · subst h; rw [dg_zero]; rfl
  · rw [dg_pos h]
    show (dg (n / 4294967296)).getD 0 0 = _
    rw [dg_at0]
theorem dg_len1 {n : Nat} (h : (dg n).length ≤ 1) : n < 4294967296 := by
  have := lt_of_dg n
  have h2 : 4294967296 ^ (dg n).length ≤ 4294967296 ^ 1 := Nat.pow_le_pow_right (by decide) h
  omega
theorem u32_and1 (x : Nat) (h : x < 4294967296) : bits .and .u32 (x : Int) 1 = ((x % 2 : Nat) : Int) := by
  have := u32_and_nat x 1 h (by decide)
  rw [show (2 : Nat) = 2 ^ 1 from rfl, ← Nat.and_two_pow_sub_one_eq_mod]
  exact this
set_option maxRecDepth 100000 in
set_option maxHeartbeats 600000 in
theorem Bbit_zero (x : Nat) (w : World) (hx : IntB w x 0) : Calls Tryz.prog 179 #[.pointer (some ⟨x, 0, none⟩), .int .i64 0] w (fun e w' => e = .returned (.int .u64 0) ∧ w = w') := by
  obtain ⟨A, c, c0, c1, _⟩ := hx.rd
  rw [show (dg (0 : Int).natAbs) = [] from dg_zero] at c1
  rw [show decide ((0 : Int) < 0) = false from rfl] at c0
  clear hx
  go_enter Tryz.func179, Tryz.ntmps179
  go_wp2
  go_ret
  exact ⟨rfl, rfl⟩
set_option maxRecDepth 100000 in
set_option maxHeartbeats 600000 in
theorem Bbit_pos (x k t gm c : Nat) (ht : t < 4294967296) (hk : k ≤ 1000000) (w : World) (c0 : w.cell? ⟨x, 0, none⟩ = some (.bool false)) (c1 : w.cell? ⟨x, 1, none⟩ = some (.slice (some ⟨gm, 0, none⟩) (k + 1) c)) (ct : w.cell? ⟨gm, 0, none⟩ = some (.int .u32 (t : Int))) : Calls Tryz.prog 179 #[.pointer (some ⟨x, 0, none⟩), .int .i64 0] w (fun e w' => e = .returned (.int .u64 ((t % 2 : Nat) : Int)) ∧ w = w') := by
  have ga := u32_and1 t ht
  rw [Int.natCast_emod] at ga
  clear ht
  go_enter Tryz.func179, Tryz.ntmps179
  go_wp2
  go_ret
  exact ⟨ret_int (by first | rfl | exact ga | omega), rfl⟩
theorem Bbit (x n : Nat) (hn : (dg n).length ≤ 1000000) (w : World) (hx : IntB w x (n : Int)) : Calls Tryz.prog 179 #[.pointer (some ⟨x, 0, none⟩), .int .i64 0] w (fun e w' => e = .returned (.int .u64 ((n % 2 : Nat) : Int)) ∧ w = w') := by
  by_cases h : n = 0
  · subst h; exact Bbit_zero x w hx
  · obtain ⟨A, c, c0, c1, hr⟩ := hx.rd
    rw [decide_eq_false (by omega)] at c0
    rw [Int.natAbs_natCast] at c1 hr
    obtain ⟨k, hk⟩ : ∃ k, (dg n).length = k + 1 := ⟨_, (Nat.succ_pred_eq_of_pos (dg_len_pos h)).symm⟩
    obtain ⟨g, rfl, _, ct⟩ := hr.cell (i := 0) (by omega)
    rw [hk] at c1
    rw [dg_at0] at ct
    refine (Bbit_pos x k _ g c (by omega) (by omega) w c0 c1 ct).mono fun e w' h => ⟨h.1.trans (ret_int ?_), h.2⟩
    omega
set_option maxRecDepth 100000 in
set_option maxHeartbeats 600000 in
theorem Buint64_zero (x : Nat) (A : Option Addr) (c : Nat) (w : World) (c1 : w.cell? ⟨x, 1, none⟩ = some (.slice A 0 c)) : Calls Tryz.prog 180 #[.pointer (some ⟨x, 0, none⟩)] w (fun e w' => e = .returned (.int .u64 0) ∧ w = w') := by
  go_enter Tryz.func180, Tryz.ntmps180
  go_wp2
  go_ret
  exact ⟨rfl, rfl⟩
set_option maxRecDepth 100000 in
set_option maxHeartbeats 600000 in
theorem Buint64_one (x gm c t : Nat) (ht : t < 4294967296) (w : World) (c1 : w.cell? ⟨x, 1, none⟩ = some (.slice (some ⟨gm, 0, none⟩) 1 c)) (ct : w.cell? ⟨gm, 0, none⟩ = some (.int .u32 (t : Int))) : Calls Tryz.prog 180 #[.pointer (some ⟨x, 0, none⟩)] w (fun e w' => e = .returned (.int .u64 (t : Int)) ∧ w = w') := by
  go_enter Tryz.func180, Tryz.ntmps180
  go_wp2
  go_ret
  exact ⟨rfl, rfl⟩
set_option maxRecDepth 100000 in
set_option maxHeartbeats 600000 in
theorem Buint64_more (x gm c t u k : Nat) (ht : t < 4294967296) (hu : u < 4294967296) (hk : k ≤ 1000000) (w : World) (c1 : w.cell? ⟨x, 1, none⟩ = some (.slice (some ⟨gm, 0, none⟩) (k + 2) c)) (ct : w.cell? ⟨gm, 0, none⟩ = some (.int .u32 (t : Int))) (cu : w.cell? ⟨gm, 1, none⟩ = some (.int .u32 (u : Int))) : Calls Tryz.prog 180 #[.pointer (some ⟨x, 0, none⟩)] w (fun e w' => e = .returned (.int .u64 ((t + 4294967296 * u : Nat) : Int)) ∧ w = w') := by
  have gor := Lib.hid (or_high ht hu)
  have d : (0 : Int) < (k : Int) + 2 := by omega
  have d2 : (1 : Int) < (k : Int) + 2 := by omega
  have HT := Lib.hid ht
  go_enter Tryz.func180, Tryz.ntmps180
  go_wp2
  go_ret
  exact ⟨ret_int (by first | exact gor.out | (rw [← gor.out]; simp)), rfl⟩
theorem Buint64 (x : Nat) (v : Int) (hn : (dg v.natAbs).length ≤ 1000000) (w : World) (hx : IntB w x v) : Calls Tryz.prog 180 #[.pointer (some ⟨x, 0, none⟩)] w (fun e w' => e = .returned (.int .u64 ((v.natAbs % 18446744073709551616 : Nat) : Int)) ∧ w = w') := by
  obtain ⟨A, c, c0, c1, hr⟩ := hx.rd
  clear hx c0
  generalize v.natAbs = n at *
  rcases hk : (dg n).length with _ | _ | k
  · have h0 : n = 0 := dg_eq_nil (List.eq_nil_of_length_eq_zero hk)
    rw [hk] at c1
    refine (Buint64_zero x A c w c1).mono fun e w' h => ⟨h.1.trans (ret_int ?_), h.2⟩
    omega
  · obtain ⟨g, rfl, _, ct⟩ := hr.cell (i := 0) (by omega)
    have h1 := dg_len1 (n := n) (by omega)
    rw [hk] at c1
    rw [dg_at0] at ct
    refine (Buint64_one x g c _ (by omega) w c1 ct).mono fun e w' h => ⟨h.1.trans (ret_int ?_), h.2⟩
    omega
  · obtain ⟨g, rfl, _, ct⟩ := hr.cell (i := 0) (by omega)
    obtain ⟨g', e, _, cu⟩ := hr.cell (i := 1) (by omega)
    have e' := Option.some.inj e
    injection e' with e'
    subst e'
    rw [hk] at c1
    rw [dg_at0] at ct
    rw [dg_at1] at cu
    refine (Buint64_more x g c _ _ k (by omega) (by omega) (by omega) w c1 ct cu).mono fun e w' h => ⟨h.1.trans (ret_int ?_), h.2⟩
    omega
end Go.Proofs.YtjmaggfddinbkaaGreatDoor
end

section
namespace Go.Proofs.YtjmaggfddinbkaaGreatDoor
open Go.RowKit
def MinusRel (W : World) (g : Nat) (la lb : List Nat) (cv iv : Value) (wr : World) : Prop :=
  ∃ (k c : Nat) (o : List Nat), k ≤ la.length ∧ c ≤ 1 ∧ cv = .int .u64 (c : Int) ∧ iv = .int .i64 (k : Int) ∧ o.length = la.length ∧ Words o ∧ OwnW wr g o ∧ lo o k + lo lb k = lo la k + 4294967296 ^ k * c ∧ Within W wr
theorem MinusRel.less {W wr : World} {g : Nat} {la lb o : List Nat} {k c x y : Nat} (v q : Int) (hk : k < la.length) (hc : c ≤ 1) (ho : o.length = la.length) (hwo : Words o) (hown : OwnW wr g o) (hval : lo o k + lo lb k = lo la k + 4294967296 ^ k * c) (hin : Within W wr)
    (hx : x = la.getD k 0) (hy : y = lb.getD k 0) (hx2 : x < 4294967296) (hy2 : y < 4294967296) (hg : W.heap.size ≤ g) (hlt : x < c + y) (hv : v = ((x + 4294967296 - (c + y) : Nat) : Int)) (hq : q = ((k + 1 : Nat) : Int)) :
    MinusRel W g la lb (.int .u64 1) (.int .i64 q) (wr.setCell ⟨g, k, none⟩ (.int .u32 v)) := by
  subst hv hq
  refine ⟨k + 1, 1, o.set k (x + 4294967296 - (c + y)), by omega, by omega, rfl, rfl, by rw [List.length_set]; exact ho, hwo.set _ _ (by omega), hown.set _ _ (by omega), ?_, hin.setCell hg _⟩
  rw [lo_set_succ _ _ _ (by omega), lo_succ la, lo_succ lb, ← hx, ← hy, Nat.pow_succ]
  have := minus_less (P := 4294967296 ^ k) (a := x) (b := y) hval (by omega)
  omega
theorem MinusRel.more {W wr : World} {g : Nat} {la lb o : List Nat} {k c x y : Nat} (v q : Int) (hk : k < la.length) (ho : o.length = la.length) (hwo : Words o) (hown : OwnW wr g o) (hval : lo o k + lo lb k = lo la k + 4294967296 ^ k * c) (hin : Within W wr)
    (hx : x = la.getD k 0) (hy : y = lb.getD k 0) (hx2 : x < 4294967296) (hg : W.heap.size ≤ g) (hge : c + y ≤ x) (hv : v = ((x - (c + y) : Nat) : Int)) (hq : q = ((k + 1 : Nat) : Int)) :
    MinusRel W g la lb (.int .u64 0) (.int .i64 q) (wr.setCell ⟨g, k, none⟩ (.int .u32 v)) := by
  subst hv hq
  refine ⟨k + 1, 0, o.set k (x - (c + y)), by omega, by omega, rfl, rfl, by rw [List.length_set]; exact ho, hwo.set _ _ (by omega), hown.set _ _ (by omega), ?_, hin.setCell hg _⟩
  rw [lo_set_succ _ _ _ (by omega), lo_succ la, lo_succ lb, ← hx, ← hy, Nat.pow_succ]
  have := minus_more (P := 4294967296 ^ k) (a := x) (b := y) hval (by omega)
  omega
set_option maxRecDepth 100000 in
set_option maxHeartbeats 600000 in
theorem Bminus0 (la lb : List Nat) (A Bv : Option Addr) (ca cb : Nat) (hwa : Words la) (hwb : Words lb) (hla : la.length ≤ 1500000) (hll : lb.length ≤ la.length) (hge : wval lb ≤ wval la) (w : World) (hra : RowAt w A la) (hrb : RowAt w Bv lb) :
    Calls Tryz.prog 133 #[.slice A la.length ca, .slice Bv lb.length cb] w (RetW w (wval la - wval lb)) := by
  have hmk := run_make_row' (P := Tryz.prog) 100 133 (.int .u32 0) 4 (by kernel_rfl) Tryz.infoU32 rfl .i64 .i64 la.length (by omega) (by omega)
  have HWA := Lib.hid hwa; have HWB := Lib.hid hwb; have HRA := Lib.hid hra; have HRB := Lib.hid hrb; clear hwa hwb hra hrb
  have HGE := Lib.hid hge; have HLL := Lib.hid hll; clear hge hll
  have HM := OwnW.made w la.length
  go_enter Tryz.func133, Tryz.ntmps133
  go_wp2
  go_loopw [6, 7] (fun cv iv wr => MinusRel w w.heap.size la lb cv iv wr) (fun _ iv _ => la.length - (intOf iv).toNat)
  case atStart => exact ⟨0, 0, _, Nat.zero_le _, Nat.zero_le _, rfl, rfl, by simp, Words.zeros _, HM, by simp [lo_zero], (Within.refl w).alloc _⟩
  case round =>
    obtain ⟨k, c, o, hk, hc, rfl, rfl, ho, hwo, hown, hval, hin⟩ := hrel
    have HV := Lib.hid hval; have HO := Lib.hid ho; have HWO := Lib.hid hwo; clear hval ho hwo
    rcases Nat.lt_or_ge k la.length with hlt | hlt
    · obtain ⟨ga, rfl, hga, hca⟩ := (HRA.out.of hin).cell hlt
      obtain ⟨x, hxe⟩ : ∃ x, x = la.getD k 0 := ⟨_, rfl⟩
      have hx : x < 4294967296 := by rw [hxe]; exact HWA.out.getD k
      rw [← hxe] at hca
      have HXE := Lib.hid hxe; clear hxe
      have hco := hown.cell (i := k) (by rw [HO.out]; omega)
      have hfo := hown.frozen k
      rcases Nat.lt_or_ge k lb.length with hlb | hlb
      · obtain ⟨gb, rfl, hgb, hcb⟩ := (HRB.out.of hin).cell hlb
        obtain ⟨y, hye⟩ : ∃ y, y = lb.getD k 0 := ⟨_, rfl⟩
        have hy : y < 4294967296 := by rw [hye]; exact HWB.out.getD k
        rw [← hye] at hcb
        have HYE := Lib.hid hye; clear hye
        rcases Nat.lt_or_ge x (c + y) with hxy | hxy
        · have dx : decide ((x : Int) < c + y) = true := decide_eq_true (by omega)
          go_wp2
          go_roundw
          case rel => exact MinusRel.less (x := x) (y := y) _ _ hlt hc HO.out HWO.out hown HV.out hin HXE.out HYE.out hx hy (Nat.le_refl _) hxy (by omega) (by omega)
          case measure => simp [intOf]; omega
        · have dx : decide ((x : Int) < c + y) = false := decide_eq_false (by omega)
          go_wp2
          go_roundw
          case rel => exact MinusRel.more (x := x) (y := y) _ _ hlt HO.out HWO.out hown HV.out hin HXE.out HYE.out hx (Nat.le_refl _) hxy (by omega) (by omega)
          case measure => simp [intOf]; omega
      · have hy0 : 0 = lb.getD k 0 := by simp [List.getD_eq_getElem?_getD, hlb]
        have HY0 := Lib.hid hy0; clear hy0
        rcases Nat.lt_or_ge x (c) with hxy | hxy
        · have dx : decide ((x : Int) < c) = true := decide_eq_true (by omega)
          go_wp2
          go_roundw
          case rel => exact MinusRel.less (x := x) (y := 0) _ _ hlt hc HO.out HWO.out hown HV.out hin HXE.out HY0.out hx (by decide) (Nat.le_refl _) hxy (by omega) (by omega)
          case measure => simp [intOf]; omega
        · have dx : decide ((x : Int) < c) = false := decide_eq_false (by omega)
          go_wp2
          go_roundw
          case rel => exact MinusRel.more (x := x) (y := 0) _ _ hlt HO.out HWO.out hown HV.out hin HXE.out HY0.out hx (Nat.le_refl _) hxy (by omega) (by omega)
          case measure => simp [intOf]; omega
    · obtain rfl : k = la.length := by omega
      have CT := Lib.hid (Bcut o (some ⟨w.heap.size, 0, none⟩) la.length HWO.out (by rw [HO.out]; exact Nat.le_refl _) (by rw [HO.out]; omega) _ hown.at)
      rw [HO.out] at CT
      go_wp2_with fail
      refine (CT.out).mono ?_; rintro e1 w1 ⟨rfl, rfl⟩
      go_wp2
      go_ret
      refine retW_cut hown.at HWO.out (by rw [HO.out]; exact Nat.le_refl _) hin ?_
      have h1 := HV.out
      have h2 := lo_lt o HWO.out la.length
      rw [lo_all o (Nat.le_of_eq HO.out), lo_all la (Nat.le_refl _), lo_all lb HLL.out] at h1
      rw [lo_all o (Nat.le_of_eq HO.out)] at h2
      exact (minus_end h1 h2 HGE.out).2
theorem Bminus (a b : Nat) (A Bv : Option Addr) (ca cb : Nat) (ha : (dg a).length ≤ 1500000) (hge : b ≤ a) (w : World) (hra : RowAt w A (dg a)) (hrb : RowAt w Bv (dg b)) :
    Calls Tryz.prog 133 #[.slice A (dg a).length ca, .slice Bv (dg b).length cb] w (RetW w (a - b)) := by
  have := Bminus0 (dg a) (dg b) A Bv ca cb (words_dg a) (words_dg b) ha (dg_len_mono hge) (by rw [wval_dg, wval_dg]; exact hge) w hra hrb
  rw [wval_dg, wval_dg] at this
  exact this
end Go.Proofs.YtjmaggfddinbkaaGreatDoor
end

section
namespace Go.Proofs.YtjmaggfddinbkaaGreatDoor
open Go.RowKit
def CmpRel (W : World) (la lb : List Nat) (iv : Value) (wr : World) : Prop :=
  ∃ k : Nat, k ≤ la.length ∧ iv = .int .i64 ((k : Int) - 1) ∧ (∀ j, k ≤ j → la.getD j 0 = lb.getD j 0) ∧ Within W wr
set_option maxRecDepth 100000 in
set_option maxHeartbeats 600000 in
theorem Bcompare_ne (n m : Nat) (A Bv : Option Addr) (ca cb : Nat) (h : n ≠ m) (hn : n ≤ 1500000) (hm : m ≤ 1500000) (w : World) :
    Calls Tryz.prog 160 #[.slice A n ca, .slice Bv m cb] w fun e w' => e = .returned (.int .i64 (if n < m then -1 else 1)) ∧ Within w w' := by
  have d0 : ((n : Int) != m) = true := bne_iff_ne.2 (by omega)
  rcases Nat.lt_or_ge n m with hlt | hlt
  · rw [if_pos hlt]
    clear h
    go_enter Tryz.func160, Tryz.ntmps160
    go_wp2
    go_ret
    exact ⟨rfl, Within.refl _⟩
  · rw [if_neg (by omega)]
    clear h
    go_enter Tryz.func160, Tryz.ntmps160
    go_wp2
    go_ret
    exact ⟨rfl, Within.refl _⟩
set_option maxRecDepth 100000 in
set_option maxHeartbeats 600000 in
theorem Bcompare_eq (a b : Nat) (A Bv : Option Addr) (ca cb : Nat) (h : (dg b).length = (dg a).length) (ha : (dg a).length ≤ 1500000) (w : World) (hra : RowAt w A (dg a)) (hrb : RowAt w Bv (dg b)) :
    Calls Tryz.prog 160 #[.slice A (dg a).length ca, .slice Bv (dg a).length cb] w fun e w' => e = .returned (.int .i64 (cmpN a b)) ∧ Within w w' := by
  have d0 : (((dg a).length : Int) != (dg a).length) = false := bne_self_eq_false _
  have HRA := Lib.hid hra; have HRB := Lib.hid hrb; clear hra hrb
  have HL := Lib.hid h; clear h
  go_enter Tryz.func160, Tryz.ntmps160
  go_wp2
  go_loopw [5] (fun iv wr => CmpRel w (dg a) (dg b) iv wr) (fun iv _ => (intOf iv + 1).toNat)
  case atStart => exact ⟨(dg a).length, Nat.le_refl _, by simp, fun j hj => by simp [List.getD_eq_getElem?_getD, hj, HL.out], Within.refl _⟩
  case round =>
    obtain ⟨k, hk, rfl, he, hin⟩ := hrel
    have HE := Lib.hid he; clear he
    rcases k with _ | k
    · rw [show ((0 : Nat) : Int) - 1 = -1 from rfl]
      go_wp2
      go_ret
      refine ⟨ret_int ?_, hin⟩
      rw [eq_of_all (a := a) (b := b) HL.out.symm (fun j => HE.out j (Nat.zero_le _)), cmpN_eq]
    · obtain ⟨ga, rfl, hga, hca⟩ := (HRA.out.of hin).cell (i := k) (by omega)
      obtain ⟨gb, rfl, hgb, hcb⟩ := (HRB.out.of hin).cell (i := k) (by rw [HL.out]; omega)
      obtain ⟨x, hxe⟩ : ∃ x, x = (dg a).getD k 0 := ⟨_, rfl⟩
      obtain ⟨y, hye⟩ : ∃ y, y = (dg b).getD k 0 := ⟨_, rfl⟩
      rw [← hxe] at hca; rw [← hye] at hcb
      have HXE := Lib.hid hxe; have HYE := Lib.hid hye; clear hxe hye
      have e1 : ((k + 1 : Nat) : Int) - 1 = (k : Int) := by omega
      rw [e1]
      rcases Nat.lt_trichotomy x y with hxy | hxy | hxy
      · have hxx : decide ((x : Int) < y) = true := decide_eq_true (by omega)
        go_wp2
        go_quiet (fail)
        go_wp2
        go_ret
        refine ⟨ret_int ?_, hin.drewN _⟩
        rw [cmpN_lt (lt_of_top (i := k) HL.out.symm (fun j hj => HE.out j hj) (by rw [← HXE.out, ← HYE.out]; exact hxy))]
      · subst hxy
        have hxx : decide ((x : Int) < x) = false := decide_eq_false (by omega)
        have hxx2 : decide ((x : Int) > x) = false := decide_eq_false (by omega)
        go_wp2
        go_quiet (fail)
        go_wp2
        go_quiet (fail)
        go_wp2
        go_roundw
        case rel => exact ⟨k, by omega, rfl, fun j hj => by
          rcases Nat.eq_or_lt_of_le hj with h | h
          · subst h; rw [← HXE.out, ← HYE.out]
          · exact HE.out j h, hin.drewN _⟩
        case measure => simp [intOf]
      · have hxx : decide ((x : Int) < y) = false := decide_eq_false (by omega)
        have hxx2 : decide ((x : Int) > y) = true := decide_eq_true (by omega)
        go_wp2
        go_quiet (fail)
        go_wp2
        go_quiet (fail)
        go_wp2
        go_ret
        refine ⟨ret_int ?_, (hin.drewN _).drewN _⟩
        rw [cmpN_gt (lt_of_top (i := k) HL.out (fun j hj => (HE.out j hj).symm) (by rw [← HXE.out, ← HYE.out]; exact hxy))]
theorem Bcompare (a b : Nat) (A Bv : Option Addr) (ca cb : Nat) (ha : (dg a).length ≤ 1500000) (hb : (dg b).length ≤ 1500000) (w : World) (hra : RowAt w A (dg a)) (hrb : RowAt w Bv (dg b)) :
    Calls Tryz.prog 160 #[.slice A (dg a).length ca, .slice Bv (dg b).length cb] w fun e w' => e = .returned (.int .i64 (cmpN a b)) ∧ Within w w' := by
  by_cases h : (dg b).length = (dg a).length
  · rw [h]; exact Bcompare_eq a b A Bv ca cb h ha w hra hrb
  · refine (Bcompare_ne _ _ A Bv ca cb (fun e => h e.symm) ha hb w).mono ?_
    rintro e w' ⟨rfl, hb'⟩
    refine ⟨?_, hb'⟩
    rcases Nat.lt_or_ge (dg a).length (dg b).length with hlt | hlt
    · rw [if_pos hlt, cmpN_lt (lt_of_len hlt)]
    · rw [if_neg (by omega), cmpN_gt (lt_of_len (by omega))]
end Go.Proofs.YtjmaggfddinbkaaGreatDoor
end

section
namespace Go.Proofs.YtjmaggfddinbkaaGreatDoor
open Go.RowKit
theorem dg_add_len {a b n : Nat} (ha : (dg a).length ≤ n) (hb : (dg b).length ≤ n) : (dg (a + b)).length ≤ n + 1 := by
  refine dg_len_le ?_
  have h1 := lt_of_dg a
  have h2 := lt_of_dg b
  have h3 : 4294967296 ^ (dg a).length ≤ 4294967296 ^ n := Nat.pow_le_pow_right (by decide) ha
  have h4 : 4294967296 ^ (dg b).length ≤ 4294967296 ^ n := Nat.pow_le_pow_right (by decide) hb
  rw [Nat.pow_succ]
  generalize 4294967296 ^ n = Z at *
  omega
theorem dg_add_le {a b : Nat} (ha : (dg a).length ≤ 1000000) (hb : (dg b).length ≤ 1000000) : (dg (a + b)).length ≤ 1500000 := Nat.le_trans (dg_add_len ha hb) (by decide)
set_option maxRecDepth 100000 in
set_option maxHeartbeats 600000 in
theorem Bsum_same000 (z x y : Nat) (na nb : Nat) (A Bv : Option Addr) (ca cb : Nat) (ha : (dg na).length ≤ 1000000) (hb : (dg nb).length ≤ 1000000) (w : World) (hz : IntTy w z) (a0 : w.cell? ⟨x, 0, none⟩ = some (.bool false)) (a1 : w.cell? ⟨x, 1, none⟩ = some (.slice A (dg na).length ca)) (hra : RowAt w A (dg na)) (b0 : w.cell? ⟨y, 0, none⟩ = some (.bool false)) (b1 : w.cell? ⟨y, 1, none⟩ = some (.slice Bv (dg nb).length cb)) (hrb : RowAt w Bv (dg nb)) : Calls Tryz.prog 136 #[.pointer (some ⟨z, 0, none⟩), .pointer (some ⟨x, 0, none⟩), .pointer (some ⟨y, 0, none⟩), .bool false] w (PutI w z (sgv false (na + nb))) := by
  have HZ := Lib.hid hz; have HRA := Lib.hid hra; have HRB := Lib.hid hrb; clear hz hra hrb
  have hlx := World.block_lt_of_cell? w _ a0
  have hly := World.block_lt_of_cell? w _ b0
  go_enter Tryz.func136, Tryz.ntmps136
  go_wp2
  refine wp_region_sched (fun W => W.cell? ⟨x, 1, none⟩ = some (.slice A (dg na).length ca) ∧ W.cell? ⟨y, 1, none⟩ = some (.slice Bv (dg nb).length cb)) 11 [(0, true), (1, true), (2, true), (3, true), (4, true), (5, true), (6, true), (7, true), (8, true), (9, true), (10, false), (11, false), (12, false)] (by kernel_rfl) (by kernel_rfl) ⟨a1, b1⟩ ?_
  intro hS
  repeat
    apply sched_firm rfl rfl hS
    · intro wq hq
      have hq0 := hq.1; have hq1 := hq.2
      clear hq
      go_simp
      first | rfl | (trace_state; fail)
    try simp only [Act.put, List.setIfInBounds_toArray, List.set_cons_zero, List.set_cons_succ]
  refine sched_one rfl rfl (fun K hK => ?_)
  go_simp
  refine (Bplus na nb A Bv ca cb (by omega) (by omega) w.drew (RowAt.drew HRA.out) (RowAt.drew HRB.out)).mono ?_
  rintro e2 w2 ⟨A', c', rfl, hc', hr', hb'⟩
  have hb2 : Within w w2 := (Within.refl w).drew.trans hb'
  have hlA : (dg (na + nb)).length ≤ 1500000 := by first | exact Nat.le_trans (dg_len_mono (Nat.sub_le _ _)) (by omega) | exact dg_add_le ha hb
  refine hK _ _ (fun h => ⟨(hb2.cells _ _ hlx).trans a1, (hb2.cells _ _ hly).trans b1⟩) ?_
  clear hK K
  try simp only [Act.put, List.setIfInBounds_toArray, List.set_cons_zero, List.set_cons_succ]
  refine sched_one rfl rfl (fun K hK => ?_)
  go_simp
  refine (Bput z false (dg (na + nb)) A' c' (words_dg _) hc' (by omega) w2 hr' (HZ.out.of hb2)).mono ?_
  rintro e3 w3 ⟨rfl, hI, hG⟩
  refine hK _ _ (fun h => absurd h (by decide)) ?_
  clear hK K
  try simp only [Act.put, List.setIfInBounds_toArray, List.set_cons_zero, List.set_cons_succ]
  refine sched_one rfl rfl (fun K hK => ?_)
  go_simp
  refine hK _ _ (fun h => absurd h (by decide)) ?_
  clear hK K
  try simp only [Act.put, List.setIfInBounds_toArray, List.set_cons_zero, List.set_cons_succ]
  refine sched_nil ?_
  go_wp2
  go_ret
  rw [wval_dg] at hI
  exact ⟨rfl, hI, grown_trans (grown_within z hb2) hG⟩
set_option maxRecDepth 100000 in
set_option maxHeartbeats 600000 in
theorem Bsum_ge001 (z x y : Nat) (na nb : Nat) (A Bv : Option Addr) (ca cb : Nat) (ha : (dg na).length ≤ 1000000) (hb : (dg nb).length ≤ 1000000) (w : World) (hz : IntTy w z) (a0 : w.cell? ⟨x, 0, none⟩ = some (.bool false)) (a1 : w.cell? ⟨x, 1, none⟩ = some (.slice A (dg na).length ca)) (hra : RowAt w A (dg na)) (b0 : w.cell? ⟨y, 0, none⟩ = some (.bool false)) (b1 : w.cell? ⟨y, 1, none⟩ = some (.slice Bv (dg nb).length cb)) (hrb : RowAt w Bv (dg nb)) (hge : nb ≤ na) : Calls Tryz.prog 136 #[.pointer (some ⟨z, 0, none⟩), .pointer (some ⟨x, 0, none⟩), .pointer (some ⟨y, 0, none⟩), .bool true] w (PutI w z (sgv false (na - nb))) := by
  have HZ := Lib.hid hz; have HRA := Lib.hid hra; have HRB := Lib.hid hrb; clear hz hra hrb
  have hlx := World.block_lt_of_cell? w _ a0
  have hly := World.block_lt_of_cell? w _ b0
  have hc : decide (cmpN na nb ≥ 0) = true := by unfold cmpN; rw [if_neg (by omega)]; split <;> rfl
  obtain ⟨cm, hcm⟩ : ∃ cm, cm = cmpN na nb := ⟨_, rfl⟩
  rw [← hcm] at hc
  have HC := Lib.hid hcm; clear hcm
  go_enter Tryz.func136, Tryz.ntmps136
  go_wp2
  refine wp_region_sched (fun W => W.cell? ⟨x, 1, none⟩ = some (.slice A (dg na).length ca) ∧ W.cell? ⟨y, 1, none⟩ = some (.slice Bv (dg nb).length cb)) 8 [(0, true), (1, true), (2, true), (3, true), (4, true), (5, true), (6, true), (7, true), (8, false), (9, false)] (by kernel_rfl) (by kernel_rfl) ⟨a1, b1⟩ ?_
  intro hS
  repeat
    apply sched_firm rfl rfl hS
    · intro wq hq
      have hq0 := hq.1; have hq1 := hq.2
      clear hq
      go_simp
      first | rfl | (trace_state; fail)
    try simp only [Act.put, List.setIfInBounds_toArray, List.set_cons_zero, List.set_cons_succ]
  refine sched_one rfl rfl (fun K hK => ?_)
  go_simp
  refine (Bcompare na nb A Bv ca cb (by omega) (by omega) w.drew (RowAt.drew HRA.out) (RowAt.drew HRB.out)).mono ?_
  rintro e1 w1 ⟨rfl, hb1'⟩
  rw [← HC.out]
  have hb1 : Within w w1 := (Within.refl w).drew.trans hb1'
  refine hK _ _ (fun h => absurd h (by decide)) ?_
  clear hK K
  try simp only [Act.put, List.setIfInBounds_toArray, List.set_cons_zero, List.set_cons_succ]
  refine sched_one rfl rfl (fun K hK => ?_)
  go_simp
  refine hK _ _ (fun h => absurd h (by decide)) ?_
  clear hK K
  try simp only [Act.put, List.setIfInBounds_toArray, List.set_cons_zero, List.set_cons_succ]
  refine sched_nil ?_
  have a0' := (hb1.cells _ 0 hlx).trans a0; have a1' := (hb1.cells _ 1 hlx).trans a1; have b0' := (hb1.cells _ 0 hly).trans b0; have b1' := (hb1.cells _ 1 hly).trans b1
  clear hS
  go_wp2
  refine wp_region_sched (fun W => W.cell? ⟨x, 0, none⟩ = some (.bool false) ∧ W.cell? ⟨x, 1, none⟩ = some (.slice A (dg na).length ca) ∧ W.cell? ⟨y, 1, none⟩ = some (.slice Bv (dg nb).length cb)) 14 [(0, true), (1, true), (2, true), (3, true), (4, true), (5, true), (6, true), (7, true), (8, true), (9, true), (10, true), (11, true), (12, true), (13, false), (14, false), (15, false)] (by kernel_rfl) (by kernel_rfl) ⟨a0', a1', b1'⟩ ?_
  intro hS
  repeat
    apply sched_firm rfl rfl hS
    · intro wq hq
      have hq0 := hq.1; have hq1 := hq.2.1; have hq2 := hq.2.2
      clear hq
      go_simp
      first | rfl | (trace_state; fail)
    try simp only [Act.put, List.setIfInBounds_toArray, List.set_cons_zero, List.set_cons_succ]
  refine sched_one rfl rfl (fun K hK => ?_)
  go_simp
  refine (Bminus na nb A Bv ca cb (by omega) hge w1.drew (RowAt.drew (HRA.out.of hb1)) (RowAt.drew (HRB.out.of hb1))).mono ?_
  rintro e2 w2 ⟨A', c', rfl, hc', hr', hb'⟩
  have hb2 : Within w w2 := hb1.drew.trans hb'
  have hlA : (dg (na - nb)).length ≤ 1500000 := by first | exact Nat.le_trans (dg_len_mono (Nat.sub_le _ _)) (by omega) | exact dg_add_le ha hb
  refine hK _ _ (fun h => ⟨(hb2.cells _ _ hlx).trans a0, (hb2.cells _ _ hlx).trans a1, (hb2.cells _ _ hly).trans b1⟩) ?_
  clear hK K
  try simp only [Act.put, List.setIfInBounds_toArray, List.set_cons_zero, List.set_cons_succ]
  refine sched_one rfl rfl (fun K hK => ?_)
  go_simp
  refine (Bput z false (dg (na - nb)) A' c' (words_dg _) hc' (by omega) w2 hr' (HZ.out.of hb2)).mono ?_
  rintro e3 w3 ⟨rfl, hI, hG⟩
  refine hK _ _ (fun h => absurd h (by decide)) ?_
  clear hK K
  try simp only [Act.put, List.setIfInBounds_toArray, List.set_cons_zero, List.set_cons_succ]
  refine sched_one rfl rfl (fun K hK => ?_)
  go_simp
  refine hK _ _ (fun h => absurd h (by decide)) ?_
  clear hK K
  try simp only [Act.put, List.setIfInBounds_toArray, List.set_cons_zero, List.set_cons_succ]
  refine sched_nil ?_
  go_wp2
  go_ret
  rw [wval_dg] at hI
  exact ⟨rfl, hI, grown_trans (grown_within z hb2) hG⟩
set_option maxRecDepth 100000 in
set_option maxHeartbeats 600000 in
theorem Bsum_lt001 (z x y : Nat) (na nb : Nat) (A Bv : Option Addr) (ca cb : Nat) (ha : (dg na).length ≤ 1000000) (hb : (dg nb).length ≤ 1000000) (w : World) (hz : IntTy w z) (a0 : w.cell? ⟨x, 0, none⟩ = some (.bool false)) (a1 : w.cell? ⟨x, 1, none⟩ = some (.slice A (dg na).length ca)) (hra : RowAt w A (dg na)) (b0 : w.cell? ⟨y, 0, none⟩ = some (.bool false)) (b1 : w.cell? ⟨y, 1, none⟩ = some (.slice Bv (dg nb).length cb)) (hrb : RowAt w Bv (dg nb)) (hge : na < nb) : Calls Tryz.prog 136 #[.pointer (some ⟨z, 0, none⟩), .pointer (some ⟨x, 0, none⟩), .pointer (some ⟨y, 0, none⟩), .bool true] w (PutI w z (sgv true (nb - na))) := by
  have HZ := Lib.hid hz; have HRA := Lib.hid hra; have HRB := Lib.hid hrb; clear hz hra hrb
  have hlx := World.block_lt_of_cell? w _ a0
  have hly := World.block_lt_of_cell? w _ b0
  have hc : decide (cmpN na nb ≥ 0) = false := by unfold cmpN; rw [if_pos hge]; rfl
  obtain ⟨cm, hcm⟩ : ∃ cm, cm = cmpN na nb := ⟨_, rfl⟩
  rw [← hcm] at hc
  have HC := Lib.hid hcm; clear hcm
  go_enter Tryz.func136, Tryz.ntmps136
  go_wp2
  refine wp_region_sched (fun W => W.cell? ⟨x, 1, none⟩ = some (.slice A (dg na).length ca) ∧ W.cell? ⟨y, 1, none⟩ = some (.slice Bv (dg nb).length cb)) 8 [(0, true), (1, true), (2, true), (3, true), (4, true), (5, true), (6, true), (7, true), (8, false), (9, false)] (by kernel_rfl) (by kernel_rfl) ⟨a1, b1⟩ ?_
  intro hS
  repeat
    apply sched_firm rfl rfl hS
    · intro wq hq
      have hq0 := hq.1; have hq1 := hq.2
      clear hq
      go_simp
      first | rfl | (trace_state; fail)
    try simp only [Act.put, List.setIfInBounds_toArray, List.set_cons_zero, List.set_cons_succ]
  refine sched_one rfl rfl (fun K hK => ?_)
  go_simp
  refine (Bcompare na nb A Bv ca cb (by omega) (by omega) w.drew (RowAt.drew HRA.out) (RowAt.drew HRB.out)).mono ?_
  rintro e1 w1 ⟨rfl, hb1'⟩
  rw [← HC.out]
  have hb1 : Within w w1 := (Within.refl w).drew.trans hb1'
  refine hK _ _ (fun h => absurd h (by decide)) ?_
  clear hK K
  try simp only [Act.put, List.setIfInBounds_toArray, List.set_cons_zero, List.set_cons_succ]
  refine sched_one rfl rfl (fun K hK => ?_)
  go_simp
  refine hK _ _ (fun h => absurd h (by decide)) ?_
  clear hK K
  try simp only [Act.put, List.setIfInBounds_toArray, List.set_cons_zero, List.set_cons_succ]
  refine sched_nil ?_
  have a0' := (hb1.cells _ 0 hlx).trans a0; have a1' := (hb1.cells _ 1 hlx).trans a1; have b0' := (hb1.cells _ 0 hly).trans b0; have b1' := (hb1.cells _ 1 hly).trans b1
  clear hS
  go_wp2
  refine wp_region_sched (fun W => W.cell? ⟨y, 1, none⟩ = some (.slice Bv (dg nb).length cb) ∧ W.cell? ⟨x, 1, none⟩ = some (.slice A (dg na).length ca)) 11 [(0, true), (1, true), (2, true), (3, true), (4, true), (5, true), (6, true), (7, true), (8, true), (9, true), (10, false), (11, false), (12, false)] (by kernel_rfl) (by kernel_rfl) ⟨b1', a1'⟩ ?_
  intro hS
  repeat
    apply sched_firm rfl rfl hS
    · intro wq hq
      have hq0 := hq.1; have hq1 := hq.2
      clear hq
      go_simp
      first | rfl | (trace_state; fail)
    try simp only [Act.put, List.setIfInBounds_toArray, List.set_cons_zero, List.set_cons_succ]
  refine sched_one rfl rfl (fun K hK => ?_)
  go_simp
  refine (Bminus nb na Bv A cb ca (by omega) (by omega) w1.drew (RowAt.drew (HRB.out.of hb1)) (RowAt.drew (HRA.out.of hb1))).mono ?_
  rintro e2 w2 ⟨A', c', rfl, hc', hr', hb'⟩
  have hb2 : Within w w2 := hb1.drew.trans hb'
  have hlA : (dg (nb - na)).length ≤ 1500000 := by first | exact Nat.le_trans (dg_len_mono (Nat.sub_le _ _)) (by omega) | exact dg_add_le ha hb
  refine hK _ _ (fun h => ⟨(hb2.cells _ _ hly).trans b1, (hb2.cells _ _ hlx).trans a1⟩) ?_
  clear hK K
  try simp only [Act.put, List.setIfInBounds_toArray, List.set_cons_zero, List.set_cons_succ]
  refine sched_one rfl rfl (fun K hK => ?_)
  go_simp
  refine (Bput z true (dg (nb - na)) A' c' (words_dg _) hc' (by omega) w2 hr' (HZ.out.of hb2)).mono ?_
  rintro e3 w3 ⟨rfl, hI, hG⟩
  refine hK _ _ (fun h => absurd h (by decide)) ?_
  clear hK K
  try simp only [Act.put, List.setIfInBounds_toArray, List.set_cons_zero, List.set_cons_succ]
  refine sched_one rfl rfl (fun K hK => ?_)
  go_simp
  refine hK _ _ (fun h => absurd h (by decide)) ?_
  clear hK K
  try simp only [Act.put, List.setIfInBounds_toArray, List.set_cons_zero, List.set_cons_succ]
  refine sched_nil ?_
  go_wp2
  go_ret
  rw [wval_dg] at hI
  exact ⟨rfl, hI, grown_trans (grown_within z hb2) hG⟩
set_option maxRecDepth 100000 in
set_option maxHeartbeats 600000 in
theorem Bsum_ge010 (z x y : Nat) (na nb : Nat) (A Bv : Option Addr) (ca cb : Nat) (ha : (dg na).length ≤ 1000000) (hb : (dg nb).length ≤ 1000000) (w : World) (hz : IntTy w z) (a0 : w.cell? ⟨x, 0, none⟩ = some (.bool false)) (a1 : w.cell? ⟨x, 1, none⟩ = some (.slice A (dg na).length ca)) (hra : RowAt w A (dg na)) (b0 : w.cell? ⟨y, 0, none⟩ = some (.bool true)) (b1 : w.cell? ⟨y, 1, none⟩ = some (.slice Bv (dg nb).length cb)) (hrb : RowAt w Bv (dg nb)) (hge : nb ≤ na) : Calls Tryz.prog 136 #[.pointer (some ⟨z, 0, none⟩), .pointer (some ⟨x, 0, none⟩), .pointer (some ⟨y, 0, none⟩), .bool false] w (PutI w z (sgv false (na - nb))) := by
  have HZ := Lib.hid hz; have HRA := Lib.hid hra; have HRB := Lib.hid hrb; clear hz hra hrb
  have hlx := World.block_lt_of_cell? w _ a0
  have hly := World.block_lt_of_cell? w _ b0
  have hc : decide (cmpN na nb ≥ 0) = true := by unfold cmpN; rw [if_neg (by omega)]; split <;> rfl
  obtain ⟨cm, hcm⟩ : ∃ cm, cm = cmpN na nb := ⟨_, rfl⟩
  rw [← hcm] at hc
  have HC := Lib.hid hcm; clear hcm
  go_enter Tryz.func136, Tryz.ntmps136
  go_wp2
  refine wp_region_sched (fun W => W.cell? ⟨x, 1, none⟩ = some (.slice A (dg na).length ca) ∧ W.cell? ⟨y, 1, none⟩ = some (.slice Bv (dg nb).length cb)) 8 [(0, true), (1, true), (2, true), (3, true), (4, true), (5, true), (6, true), (7, true), (8, false), (9, false)] (by kernel_rfl) (by kernel_rfl) ⟨a1, b1⟩ ?_
  intro hS
  repeat
    apply sched_firm rfl rfl hS
    · intro wq hq
      have hq0 := hq.1; have hq1 := hq.2
      clear hq
      go_simp
      first | rfl | (trace_state; fail)
    try simp only [Act.put, List.setIfInBounds_toArray, List.set_cons_zero, List.set_cons_succ]
  refine sched_one rfl rfl (fun K hK => ?_)
  go_simp
  refine (Bcompare na nb A Bv ca cb (by omega) (by omega) w.drew (RowAt.drew HRA.out) (RowAt.drew HRB.out)).mono ?_
  rintro e1 w1 ⟨rfl, hb1'⟩
  rw [← HC.out]
  have hb1 : Within w w1 := (Within.refl w).drew.trans hb1'
  refine hK _ _ (fun h => absurd h (by decide)) ?_
  clear hK K
  try simp only [Act.put, List.setIfInBounds_toArray, List.set_cons_zero, List.set_cons_succ]
  refine sched_one rfl rfl (fun K hK => ?_)
  go_simp
  refine hK _ _ (fun h => absurd h (by decide)) ?_
  clear hK K
  try simp only [Act.put, List.setIfInBounds_toArray, List.set_cons_zero, List.set_cons_succ]
  refine sched_nil ?_
  have a0' := (hb1.cells _ 0 hlx).trans a0; have a1' := (hb1.cells _ 1 hlx).trans a1; have b0' := (hb1.cells _ 0 hly).trans b0; have b1' := (hb1.cells _ 1 hly).trans b1
  clear hS
  go_wp2
  refine wp_region_sched (fun W => W.cell? ⟨x, 0, none⟩ = some (.bool false) ∧ W.cell? ⟨x, 1, none⟩ = some (.slice A (dg na).length ca) ∧ W.cell? ⟨y, 1, none⟩ = some (.slice Bv (dg nb).length cb)) 14 [(0, true), (1, true), (2, true), (3, true), (4, true), (5, true), (6, true), (7, true), (8, true), (9, true), (10, true), (11, true), (12, true), (13, false), (14, false), (15, false)] (by kernel_rfl) (by kernel_rfl) ⟨a0', a1', b1'⟩ ?_
  intro hS
  repeat
    apply sched_firm rfl rfl hS
    · intro wq hq
      have hq0 := hq.1; have hq1 := hq.2.1; have hq2 := hq.2.2
      clear hq
      go_simp
      first | rfl | (trace_state; fail)
    try simp only [Act.put, List.setIfInBounds_toArray, List.set_cons_zero, List.set_cons_succ]
  refine sched_one rfl rfl (fun K hK => ?_)
  go_simp
  refine (Bminus na nb A Bv ca cb (by omega) hge w1.drew (RowAt.drew (HRA.out.of hb1)) (RowAt.drew (HRB.out.of hb1))).mono ?_
  rintro e2 w2 ⟨A', c', rfl, hc', hr', hb'⟩
  have hb2 : Within w w2 := hb1.drew.trans hb'
  have hlA : (dg (na - nb)).length ≤ 1500000 := by first | exact Nat.le_trans (dg_len_mono (Nat.sub_le _ _)) (by omega) | exact dg_add_le ha hb
  refine hK _ _ (fun h => ⟨(hb2.cells _ _ hlx).trans a0, (hb2.cells _ _ hlx).trans a1, (hb2.cells _ _ hly).trans b1⟩) ?_
  clear hK K
  try simp only [Act.put, List.setIfInBounds_toArray, List.set_cons_zero, List.set_cons_succ]
  refine sched_one rfl rfl (fun K hK => ?_)
  go_simp
  refine (Bput z false (dg (na - nb)) A' c' (words_dg _) hc' (by omega) w2 hr' (HZ.out.of hb2)).mono ?_
  rintro e3 w3 ⟨rfl, hI, hG⟩
  refine hK _ _ (fun h => absurd h (by decide)) ?_
  clear hK K
  try simp only [Act.put, List.setIfInBounds_toArray, List.set_cons_zero, List.set_cons_succ]
  refine sched_one rfl rfl (fun K hK => ?_)
  go_simp
  refine hK _ _ (fun h => absurd h (by decide)) ?_
  clear hK K
  try simp only [Act.put, List.setIfInBounds_toArray, List.set_cons_zero, List.set_cons_succ]
  refine sched_nil ?_
  go_wp2
  go_ret
  rw [wval_dg] at hI
  exact ⟨rfl, hI, grown_trans (grown_within z hb2) hG⟩
set_option maxRecDepth 100000 in
set_option maxHeartbeats 600000 in
theorem Bsum_lt010 (z x y : Nat) (na nb : Nat) (A Bv : Option Addr) (ca cb : Nat) (ha : (dg na).length ≤ 1000000) (hb : (dg nb).length ≤ 1000000) (w : World) (hz : IntTy w z) (a0 : w.cell? ⟨x, 0, none⟩ = some (.bool false)) (a1 : w.cell? ⟨x, 1, none⟩ = some (.slice A (dg na).length ca)) (hra : RowAt w A (dg na)) (b0 : w.cell? ⟨y, 0, none⟩ = some (.bool true)) (b1 : w.cell? ⟨y, 1, none⟩ = some (.slice Bv (dg nb).length cb)) (hrb : RowAt w Bv (dg nb)) (hge : na < nb) : Calls Tryz.prog 136 #[.pointer (some ⟨z, 0, none⟩), .pointer (some ⟨x, 0, none⟩), .pointer (some ⟨y, 0, none⟩), .bool false] w (PutI w z (sgv true (nb - na))) := by
  have HZ := Lib.hid hz; have HRA := Lib.hid hra; have HRB := Lib.hid hrb; clear hz hra hrb
  have hlx := World.block_lt_of_cell? w _ a0
  have hly := World.block_lt_of_cell? w _ b0
  have hc : decide (cmpN na nb ≥ 0) = false := by unfold cmpN; rw [if_pos hge]; rfl
  obtain ⟨cm, hcm⟩ : ∃ cm, cm = cmpN na nb := ⟨_, rfl⟩
  rw [← hcm] at hc
  have HC := Lib.hid hcm; clear hcm
  go_enter Tryz.func136, Tryz.ntmps136
  go_wp2
  refine wp_region_sched (fun W => W.cell? ⟨x, 1, none⟩ = some (.slice A (dg na).length ca) ∧ W.cell? ⟨y, 1, none⟩ = some (.slice Bv (dg nb).length cb)) 8 [(0, true), (1, true), (2, true), (3, true), (4, true), (5, true), (6, true), (7, true), (8, false), (9, false)] (by kernel_rfl) (by kernel_rfl) ⟨a1, b1⟩ ?_
  intro hS
  repeat
    apply sched_firm rfl rfl hS
    · intro wq hq
      have hq0 := hq.1; have hq1 := hq.2
      clear hq
      go_simp
      first | rfl | (trace_state; fail)
    try simp only [Act.put, List.setIfInBounds_toArray, List.set_cons_zero, List.set_cons_succ]
  refine sched_one rfl rfl (fun K hK => ?_)
  go_simp
  refine (Bcompare na nb A Bv ca cb (by omega) (by omega) w.drew (RowAt.drew HRA.out) (RowAt.drew HRB.out)).mono ?_
  rintro e1 w1 ⟨rfl, hb1'⟩
  rw [← HC.out]
  have hb1 : Within w w1 := (Within.refl w).drew.trans hb1'
  refine hK _ _ (fun h => absurd h (by decide)) ?_
  clear hK K
  try simp only [Act.put, List.setIfInBounds_toArray, List.set_cons_zero, List.set_cons_succ]
  refine sched_one rfl rfl (fun K hK => ?_)
  go_simp
  refine hK _ _ (fun h => absurd h (by decide)) ?_
  clear hK K
  try simp only [Act.put, List.setIfInBounds_toArray, List.set_cons_zero, List.set_cons_succ]
  refine sched_nil ?_
  have a0' := (hb1.cells _ 0 hlx).trans a0; have a1' := (hb1.cells _ 1 hlx).trans a1; have b0' := (hb1.cells _ 0 hly).trans b0; have b1' := (hb1.cells _ 1 hly).trans b1
  clear hS
  go_wp2
  refine wp_region_sched (fun W => W.cell? ⟨y, 1, none⟩ = some (.slice Bv (dg nb).length cb) ∧ W.cell? ⟨x, 1, none⟩ = some (.slice A (dg na).length ca)) 11 [(0, true), (1, true), (2, true), (3, true), (4, true), (5, true), (6, true), (7, true), (8, true), (9, true), (10, false), (11, false), (12, false)] (by kernel_rfl) (by kernel_rfl) ⟨b1', a1'⟩ ?_
  intro hS
  repeat
    apply sched_firm rfl rfl hS
    · intro wq hq
      have hq0 := hq.1; have hq1 := hq.2
      clear hq
      go_simp
      first | rfl | (trace_state; fail)
    try simp only [Act.put, List.setIfInBounds_toArray, List.set_cons_zero, List.set_cons_succ]
  refine sched_one rfl rfl (fun K hK => ?_)
  go_simp
  refine (Bminus nb na Bv A cb ca (by omega) (by omega) w1.drew (RowAt.drew (HRB.out.of hb1)) (RowAt.drew (HRA.out.of hb1))).mono ?_
  rintro e2 w2 ⟨A', c', rfl, hc', hr', hb'⟩
  have hb2 : Within w w2 := hb1.drew.trans hb'
  have hlA : (dg (nb - na)).length ≤ 1500000 := by first | exact Nat.le_trans (dg_len_mono (Nat.sub_le _ _)) (by omega) | exact dg_add_le ha hb
  refine hK _ _ (fun h => ⟨(hb2.cells _ _ hly).trans b1, (hb2.cells _ _ hlx).trans a1⟩) ?_
  clear hK K
  try simp only [Act.put, List.setIfInBounds_toArray, List.set_cons_zero, List.set_cons_succ]
  refine sched_one rfl rfl (fun K hK => ?_)
  go_simp
  refine (Bput z true (dg (nb - na)) A' c' (words_dg _) hc' (by omega) w2 hr' (HZ.out.of hb2)).mono ?_
  rintro e3 w3 ⟨rfl, hI, hG⟩
  refine hK _ _ (fun h => absurd h (by decide)) ?_
  clear hK K
  try simp only [Act.put, List.setIfInBounds_toArray, List.set_cons_zero, List.set_cons_succ]
  refine sched_one rfl rfl (fun K hK => ?_)
  go_simp
  refine hK _ _ (fun h => absurd h (by decide)) ?_
  clear hK K
  try simp only [Act.put, List.setIfInBounds_toArray, List.set_cons_zero, List.set_cons_succ]
  refine sched_nil ?_
  go_wp2
  go_ret
  rw [wval_dg] at hI
  exact ⟨rfl, hI, grown_trans (grown_within z hb2) hG⟩
set_option maxRecDepth 100000 in
set_option maxHeartbeats 600000 in
theorem Bsum_same011 (z x y : Nat) (na nb : Nat) (A Bv : Option Addr) (ca cb : Nat) (ha : (dg na).length ≤ 1000000) (hb : (dg nb).length ≤ 1000000) (w : World) (hz : IntTy w z) (a0 : w.cell? ⟨x, 0, none⟩ = some (.bool false)) (a1 : w.cell? ⟨x, 1, none⟩ = some (.slice A (dg na).length ca)) (hra : RowAt w A (dg na)) (b0 : w.cell? ⟨y, 0, none⟩ = some (.bool true)) (b1 : w.cell? ⟨y, 1, none⟩ = some (.slice Bv (dg nb).length cb)) (hrb : RowAt w Bv (dg nb)) : Calls Tryz.prog 136 #[.pointer (some ⟨z, 0, none⟩), .pointer (some ⟨x, 0, none⟩), .pointer (some ⟨y, 0, none⟩), .bool true] w (PutI w z (sgv false (na + nb))) := by
  have HZ := Lib.hid hz; have HRA := Lib.hid hra; have HRB := Lib.hid hrb; clear hz hra hrb
  have hlx := World.block_lt_of_cell? w _ a0
  have hly := World.block_lt_of_cell? w _ b0
  go_enter Tryz.func136, Tryz.ntmps136
  go_wp2
  refine wp_region_sched (fun W => W.cell? ⟨x, 1, none⟩ = some (.slice A (dg na).length ca) ∧ W.cell? ⟨y, 1, none⟩ = some (.slice Bv (dg nb).length cb)) 11 [(0, true), (1, true), (2, true), (3, true), (4, true), (5, true), (6, true), (7, true), (8, true), (9, true), (10, false), (11, false), (12, false)] (by kernel_rfl) (by kernel_rfl) ⟨a1, b1⟩ ?_
  intro hS
  repeat
    apply sched_firm rfl rfl hS
    · intro wq hq
      have hq0 := hq.1; have hq1 := hq.2
      clear hq
      go_simp
      first | rfl | (trace_state; fail)
    try simp only [Act.put, List.setIfInBounds_toArray, List.set_cons_zero, List.set_cons_succ]
  refine sched_one rfl rfl (fun K hK => ?_)
  go_simp
  refine (Bplus na nb A Bv ca cb (by omega) (by omega) w.drew (RowAt.drew HRA.out) (RowAt.drew HRB.out)).mono ?_
  rintro e2 w2 ⟨A', c', rfl, hc', hr', hb'⟩
  have hb2 : Within w w2 := (Within.refl w).drew.trans hb'
  have hlA : (dg (na + nb)).length ≤ 1500000 := by first | exact Nat.le_trans (dg_len_mono (Nat.sub_le _ _)) (by omega) | exact dg_add_le ha hb
  refine hK _ _ (fun h => ⟨(hb2.cells _ _ hlx).trans a1, (hb2.cells _ _ hly).trans b1⟩) ?_
  clear hK K
  try simp only [Act.put, List.setIfInBounds_toArray, List.set_cons_zero, List.set_cons_succ]
  refine sched_one rfl rfl (fun K hK => ?_)
  go_simp
  refine (Bput z false (dg (na + nb)) A' c' (words_dg _) hc' (by omega) w2 hr' (HZ.out.of hb2)).mono ?_
  rintro e3 w3 ⟨rfl, hI, hG⟩
  refine hK _ _ (fun h => absurd h (by decide)) ?_
  clear hK K
  try simp only [Act.put, List.setIfInBounds_toArray, List.set_cons_zero, List.set_cons_succ]
  refine sched_one rfl rfl (fun K hK => ?_)
  go_simp
  refine hK _ _ (fun h => absurd h (by decide)) ?_
  clear hK K
  try simp only [Act.put, List.setIfInBounds_toArray, List.set_cons_zero, List.set_cons_succ]
  refine sched_nil ?_
  go_wp2
  go_ret
  rw [wval_dg] at hI
  exact ⟨rfl, hI, grown_trans (grown_within z hb2) hG⟩
set_option maxRecDepth 100000 in
set_option maxHeartbeats 600000 in
theorem Bsum_ge100 (z x y : Nat) (na nb : Nat) (A Bv : Option Addr) (ca cb : Nat) (ha : (dg na).length ≤ 1000000) (hb : (dg nb).length ≤ 1000000) (w : World) (hz : IntTy w z) (a0 : w.cell? ⟨x, 0, none⟩ = some (.bool true)) (a1 : w.cell? ⟨x, 1, none⟩ = some (.slice A (dg na).length ca)) (hra : RowAt w A (dg na)) (b0 : w.cell? ⟨y, 0, none⟩ = some (.bool false)) (b1 : w.cell? ⟨y, 1, none⟩ = some (.slice Bv (dg nb).length cb)) (hrb : RowAt w Bv (dg nb)) (hge : nb ≤ na) : Calls Tryz.prog 136 #[.pointer (some ⟨z, 0, none⟩), .pointer (some ⟨x, 0, none⟩), .pointer (some ⟨y, 0, none⟩), .bool false] w (PutI w z (sgv true (na - nb))) := by
  have HZ := Lib.hid hz; have HRA := Lib.hid hra; have HRB := Lib.hid hrb; clear hz hra hrb
  have hlx := World.block_lt_of_cell? w _ a0
  have hly := World.block_lt_of_cell? w _ b0
  have hc : decide (cmpN na nb ≥ 0) = true := by unfold cmpN; rw [if_neg (by omega)]; split <;> rfl
  obtain ⟨cm, hcm⟩ : ∃ cm, cm = cmpN na nb := ⟨_, rfl⟩
  rw [← hcm] at hc
  have HC := Lib.hid hcm; clear hcm
  go_enter Tryz.func136, Tryz.ntmps136
  go_wp2
  refine wp_region_sched (fun W => W.cell? ⟨x, 1, none⟩ = some (.slice A (dg na).length ca) ∧ W.cell? ⟨y, 1, none⟩ = some (.slice Bv (dg nb).length cb)) 8 [(0, true), (1, true), (2, true), (3, true), (4, true), (5, true), (6, true), (7, true), (8, false), (9, false)] (by kernel_rfl) (by kernel_rfl) ⟨a1, b1⟩ ?_
  intro hS
  repeat
    apply sched_firm rfl rfl hS
    · intro wq hq
      have hq0 := hq.1; have hq1 := hq.2
      clear hq
      go_simp
      first | rfl | (trace_state; fail)
    try simp only [Act.put, List.setIfInBounds_toArray, List.set_cons_zero, List.set_cons_succ]
  refine sched_one rfl rfl (fun K hK => ?_)
  go_simp
  refine (Bcompare na nb A Bv ca cb (by omega) (by omega) w.drew (RowAt.drew HRA.out) (RowAt.drew HRB.out)).mono ?_
  rintro e1 w1 ⟨rfl, hb1'⟩
  rw [← HC.out]
  have hb1 : Within w w1 := (Within.refl w).drew.trans hb1'
  refine hK _ _ (fun h => absurd h (by decide)) ?_
  clear hK K
  try simp only [Act.put, List.setIfInBounds_toArray, List.set_cons_zero, List.set_cons_succ]
  refine sched_one rfl rfl (fun K hK => ?_)
  go_simp
  refine hK _ _ (fun h => absurd h (by decide)) ?_
  clear hK K
  try simp only [Act.put, List.setIfInBounds_toArray, List.set_cons_zero, List.set_cons_succ]
  refine sched_nil ?_
  have a0' := (hb1.cells _ 0 hlx).trans a0; have a1' := (hb1.cells _ 1 hlx).trans a1; have b0' := (hb1.cells _ 0 hly).trans b0; have b1' := (hb1.cells _ 1 hly).trans b1
  clear hS
  go_wp2
  refine wp_region_sched (fun W => W.cell? ⟨x, 0, none⟩ = some (.bool true) ∧ W.cell? ⟨x, 1, none⟩ = some (.slice A (dg na).length ca) ∧ W.cell? ⟨y, 1, none⟩ = some (.slice Bv (dg nb).length cb)) 14 [(0, true), (1, true), (2, true), (3, true), (4, true), (5, true), (6, true), (7, true), (8, true), (9, true), (10, true), (11, true), (12, true), (13, false), (14, false), (15, false)] (by kernel_rfl) (by kernel_rfl) ⟨a0', a1', b1'⟩ ?_
  intro hS
  repeat
    apply sched_firm rfl rfl hS
    · intro wq hq
      have hq0 := hq.1; have hq1 := hq.2.1; have hq2 := hq.2.2
      clear hq
      go_simp
      first | rfl | (trace_state; fail)
    try simp only [Act.put, List.setIfInBounds_toArray, List.set_cons_zero, List.set_cons_succ]
  refine sched_one rfl rfl (fun K hK => ?_)
  go_simp
  refine (Bminus na nb A Bv ca cb (by omega) hge w1.drew (RowAt.drew (HRA.out.of hb1)) (RowAt.drew (HRB.out.of hb1))).mono ?_
  rintro e2 w2 ⟨A', c', rfl, hc', hr', hb'⟩
  have hb2 : Within w w2 := hb1.drew.trans hb'
  have hlA : (dg (na - nb)).length ≤ 1500000 := by first | exact Nat.le_trans (dg_len_mono (Nat.sub_le _ _)) (by omega) | exact dg_add_le ha hb
  refine hK _ _ (fun h => ⟨(hb2.cells _ _ hlx).trans a0, (hb2.cells _ _ hlx).trans a1, (hb2.cells _ _ hly).trans b1⟩) ?_
  clear hK K
  try simp only [Act.put, List.setIfInBounds_toArray, List.set_cons_zero, List.set_cons_succ]
  refine sched_one rfl rfl (fun K hK => ?_)
  go_simp
  refine (Bput z true (dg (na - nb)) A' c' (words_dg _) hc' (by omega) w2 hr' (HZ.out.of hb2)).mono ?_
  rintro e3 w3 ⟨rfl, hI, hG⟩
  refine hK _ _ (fun h => absurd h (by decide)) ?_
  clear hK K
  try simp only [Act.put, List.setIfInBounds_toArray, List.set_cons_zero, List.set_cons_succ]
  refine sched_one rfl rfl (fun K hK => ?_)
  go_simp
  refine hK _ _ (fun h => absurd h (by decide)) ?_
  clear hK K
  try simp only [Act.put, List.setIfInBounds_toArray, List.set_cons_zero, List.set_cons_succ]
  refine sched_nil ?_
  go_wp2
  go_ret
  rw [wval_dg] at hI
  exact ⟨rfl, hI, grown_trans (grown_within z hb2) hG⟩
set_option maxRecDepth 100000 in
set_option maxHeartbeats 600000 in
theorem Bsum_lt100 (z x y : Nat) (na nb : Nat) (A Bv : Option Addr) (ca cb : Nat) (ha : (dg na).length ≤ 1000000) (hb : (dg nb).length ≤ 1000000) (w : World) (hz : IntTy w z) (a0 : w.cell? ⟨x, 0, none⟩ = some (.bool true)) (a1 : w.cell? ⟨x, 1, none⟩ = some (.slice A (dg na).length ca)) (hra : RowAt w A (dg na)) (b0 : w.cell? ⟨y, 0, none⟩ = some (.bool false)) (b1 : w.cell? ⟨y, 1, none⟩ = some (.slice Bv (dg nb).length cb)) (hrb : RowAt w Bv (dg nb)) (hge : na < nb) : Calls Tryz.prog 136 #[.pointer (some ⟨z, 0, none⟩), .pointer (some ⟨x, 0, none⟩), .pointer (some ⟨y, 0, none⟩), .bool false] w (PutI w z (sgv false (nb - na))) := by
  have HZ := Lib.hid hz; have HRA := Lib.hid hra; have HRB := Lib.hid hrb; clear hz hra hrb
  have hlx := World.block_lt_of_cell? w _ a0
  have hly := World.block_lt_of_cell? w _ b0
  have hc : decide (cmpN na nb ≥ 0) = false := by unfold cmpN; rw [if_pos hge]; rfl
  obtain ⟨cm, hcm⟩ : ∃ cm, cm = cmpN na nb := ⟨_, rfl⟩
  rw [← hcm] at hc
  have HC := Lib.hid hcm; clear hcm
  go_enter Tryz.func136, Tryz.ntmps136
  go_wp2
  refine wp_region_sched (fun W => W.cell? ⟨x, 1, none⟩ = some (.slice A (dg na).length ca) ∧ W.cell? ⟨y, 1, none⟩ = some (.slice Bv (dg nb).length cb)) 8 [(0, true), (1, true), (2, true), (3, true), (4, true), (5, true), (6, true), (7, true), (8, false), (9, false)] (by kernel_rfl) (by kernel_rfl) ⟨a1, b1⟩ ?_
  intro hS
  repeat
    apply sched_firm rfl rfl hS
    · intro wq hq
      have hq0 := hq.1; have hq1 := hq.2
      clear hq
      go_simp
      first | rfl | (trace_state; fail)
    try simp only [Act.put, List.setIfInBounds_toArray, List.set_cons_zero, List.set_cons_succ]
  refine sched_one rfl rfl (fun K hK => ?_)
  go_simp
  refine (Bcompare na nb A Bv ca cb (by omega) (by omega) w.drew (RowAt.drew HRA.out) (RowAt.drew HRB.out)).mono ?_
  rintro e1 w1 ⟨rfl, hb1'⟩
  rw [← HC.out]
  have hb1 : Within w w1 := (Within.refl w).drew.trans hb1'
  refine hK _ _ (fun h => absurd h (by decide)) ?_
  clear hK K
  try simp only [Act.put, List.setIfInBounds_toArray, List.set_cons_zero, List.set_cons_succ]
  refine sched_one rfl rfl (fun K hK => ?_)
  go_simp
  refine hK _ _ (fun h => absurd h (by decide)) ?_
  clear hK K
  try simp only [Act.put, List.setIfInBounds_toArray, List.set_cons_zero, List.set_cons_succ]
  refine sched_nil ?_
  have a0' := (hb1.cells _ 0 hlx).trans a0; have a1' := (hb1.cells _ 1 hlx).trans a1; have b0' := (hb1.cells _ 0 hly).trans b0; have b1' := (hb1.cells _ 1 hly).trans b1
  clear hS
  go_wp2
  refine wp_region_sched (fun W => W.cell? ⟨y, 1, none⟩ = some (.slice Bv (dg nb).length cb) ∧ W.cell? ⟨x, 1, none⟩ = some (.slice A (dg na).length ca)) 11 [(0, true), (1, true), (2, true), (3, true), (4, true), (5, true), (6, true), (7, true), (8, true), (9, true), (10, false), (11, false), (12, false)] (by kernel_rfl) (by kernel_rfl) ⟨b1', a1'⟩ ?_
  intro hS
  repeat
    apply sched_firm rfl rfl hS
    · intro wq hq
      have hq0 := hq.1; have hq1 := hq.2
      clear hq
      go_simp
      first | rfl | (trace_state; fail)
    try simp only [Act.put, List.setIfInBounds_toArray, List.set_cons_zero, List.set_cons_succ]
  refine sched_one rfl rfl (fun K hK => ?_)
  go_simp
  refine (Bminus nb na Bv A cb ca (by omega) (by omega) w1.drew (RowAt.drew (HRB.out.of hb1)) (RowAt.drew (HRA.out.of hb1))).mono ?_
  rintro e2 w2 ⟨A', c', rfl, hc', hr', hb'⟩
  have hb2 : Within w w2 := hb1.drew.trans hb'
  have hlA : (dg (nb - na)).length ≤ 1500000 := by first | exact Nat.le_trans (dg_len_mono (Nat.sub_le _ _)) (by omega) | exact dg_add_le ha hb
  refine hK _ _ (fun h => ⟨(hb2.cells _ _ hly).trans b1, (hb2.cells _ _ hlx).trans a1⟩) ?_
  clear hK K
  try simp only [Act.put, List.setIfInBounds_toArray, List.set_cons_zero, List.set_cons_succ]
  refine sched_one rfl rfl (fun K hK => ?_)
  go_simp
  refine (Bput z false (dg (nb - na)) A' c' (words_dg _) hc' (by omega) w2 hr' (HZ.out.of hb2)).mono ?_
  rintro e3 w3 ⟨rfl, hI, hG⟩
  refine hK _ _ (fun h => absurd h (by decide)) ?_
  clear hK K
  try simp only [Act.put, List.setIfInBounds_toArray, List.set_cons_zero, List.set_cons_succ]
  refine sched_one rfl rfl (fun K hK => ?_)
  go_simp
  refine hK _ _ (fun h => absurd h (by decide)) ?_
  clear hK K
  try simp only [Act.put, List.setIfInBounds_toArray, List.set_cons_zero, List.set_cons_succ]
  refine sched_nil ?_
  go_wp2
  go_ret
  rw [wval_dg] at hI
  exact ⟨rfl, hI, grown_trans (grown_within z hb2) hG⟩
set_option maxRecDepth 100000 in
set_option maxHeartbeats 600000 in
theorem Bsum_same101 (z x y : Nat) (na nb : Nat) (A Bv : Option Addr) (ca cb : Nat) (ha : (dg na).length ≤ 1000000) (hb : (dg nb).length ≤ 1000000) (w : World) (hz : IntTy w z) (a0 : w.cell? ⟨x, 0, none⟩ = some (.bool true)) (a1 : w.cell? ⟨x, 1, none⟩ = some (.slice A (dg na).length ca)) (hra : RowAt w A (dg na)) (b0 : w.cell? ⟨y, 0, none⟩ = some (.bool false)) (b1 : w.cell? ⟨y, 1, none⟩ = some (.slice Bv (dg nb).length cb)) (hrb : RowAt w Bv (dg nb)) : Calls Tryz.prog 136 #[.pointer (some ⟨z, 0, none⟩), .pointer (some ⟨x, 0, none⟩), .pointer (some ⟨y, 0, none⟩), .bool true] w (PutI w z (sgv true (na + nb))) := by
  have HZ := Lib.hid hz; have HRA := Lib.hid hra; have HRB := Lib.hid hrb; clear hz hra hrb
  have hlx := World.block_lt_of_cell? w _ a0
  have hly := World.block_lt_of_cell? w _ b0
  go_enter Tryz.func136, Tryz.ntmps136
  go_wp2
  refine wp_region_sched (fun W => W.cell? ⟨x, 1, none⟩ = some (.slice A (dg na).length ca) ∧ W.cell? ⟨y, 1, none⟩ = some (.slice Bv (dg nb).length cb)) 11 [(0, true), (1, true), (2, true), (3, true), (4, true), (5, true), (6, true), (7, true), (8, true), (9, true), (10, false), (11, false), (12, false)] (by kernel_rfl) (by kernel_rfl) ⟨a1, b1⟩ ?_
  intro hS
  repeat
    apply sched_firm rfl rfl hS
    · intro wq hq
      have hq0 := hq.1; have hq1 := hq.2
      clear hq
      go_simp
      first | rfl | (trace_state; fail)
    try simp only [Act.put, List.setIfInBounds_toArray, List.set_cons_zero, List.set_cons_succ]
  refine sched_one rfl rfl (fun K hK => ?_)
  go_simp
  refine (Bplus na nb A Bv ca cb (by omega) (by omega) w.drew (RowAt.drew HRA.out) (RowAt.drew HRB.out)).mono ?_
  rintro e2 w2 ⟨A', c', rfl, hc', hr', hb'⟩
  have hb2 : Within w w2 := (Within.refl w).drew.trans hb'
  have hlA : (dg (na + nb)).length ≤ 1500000 := by first | exact Nat.le_trans (dg_len_mono (Nat.sub_le _ _)) (by omega) | exact dg_add_le ha hb
  refine hK _ _ (fun h => ⟨(hb2.cells _ _ hlx).trans a1, (hb2.cells _ _ hly).trans b1⟩) ?_
  clear hK K
  try simp only [Act.put, List.setIfInBounds_toArray, List.set_cons_zero, List.set_cons_succ]
  refine sched_one rfl rfl (fun K hK => ?_)
  go_simp
  refine (Bput z true (dg (na + nb)) A' c' (words_dg _) hc' (by omega) w2 hr' (HZ.out.of hb2)).mono ?_
  rintro e3 w3 ⟨rfl, hI, hG⟩
  refine hK _ _ (fun h => absurd h (by decide)) ?_
  clear hK K
  try simp only [Act.put, List.setIfInBounds_toArray, List.set_cons_zero, List.set_cons_succ]
  refine sched_one rfl rfl (fun K hK => ?_)
  go_simp
  refine hK _ _ (fun h => absurd h (by decide)) ?_
  clear hK K
  try simp only [Act.put, List.setIfInBounds_toArray, List.set_cons_zero, List.set_cons_succ]
  refine sched_nil ?_
  go_wp2
  go_ret
  rw [wval_dg] at hI
  exact ⟨rfl, hI, grown_trans (grown_within z hb2) hG⟩
set_option maxRecDepth 100000 in
set_option maxHeartbeats 600000 in
theorem Bsum_same110 (z x y : Nat) (na nb : Nat) (A Bv : Option Addr) (ca cb : Nat) (ha : (dg na).length ≤ 1000000) (hb : (dg nb).length ≤ 1000000) (w : World) (hz : IntTy w z) (a0 : w.cell? ⟨x, 0, none⟩ = some (.bool true)) (a1 : w.cell? ⟨x, 1, none⟩ = some (.slice A (dg na).length ca)) (hra : RowAt w A (dg na)) (b0 : w.cell? ⟨y, 0, none⟩ = some (.bool true)) (b1 : w.cell? ⟨y, 1, none⟩ = some (.slice Bv (dg nb).length cb)) (hrb : RowAt w Bv (dg nb)) : Calls Tryz.prog 136 #[.pointer (some ⟨z, 0, none⟩), .pointer (some ⟨x, 0, none⟩), .pointer (some ⟨y, 0, none⟩), .bool false] w (PutI w z (sgv true (na + nb))) := by
  have HZ := Lib.hid hz; have HRA := Lib.hid hra; have HRB := Lib.hid hrb; clear hz hra hrb
  have hlx := World.block_lt_of_cell? w _ a0
  have hly := World.block_lt_of_cell? w _ b0
  go_enter Tryz.func136, Tryz.ntmps136
  go_wp2
  refine wp_region_sched (fun W => W.cell? ⟨x, 1, none⟩ = some (.slice A (dg na).length ca) ∧ W.cell? ⟨y, 1, none⟩ = some (.slice Bv (dg nb).length cb)) 11 [(0, true), (1, true), (2, true), (3, true), (4, true), (5, true), (6, true), (7, true), (8, true), (9, true), (10, false), (11, false), (12, false)] (by kernel_rfl) (by kernel_rfl) ⟨a1, b1⟩ ?_
  intro hS
  repeat
    apply sched_firm rfl rfl hS
    · intro wq hq
      have hq0 := hq.1; have hq1 := hq.2
      clear hq
      go_simp
      first | rfl | (trace_state; fail)
    try simp only [Act.put, List.setIfInBounds_toArray, List.set_cons_zero, List.set_cons_succ]
  refine sched_one rfl rfl (fun K hK => ?_)
  go_simp
  refine (Bplus na nb A Bv ca cb (by omega) (by omega) w.drew (RowAt.drew HRA.out) (RowAt.drew HRB.out)).mono ?_
  rintro e2 w2 ⟨A', c', rfl, hc', hr', hb'⟩
  have hb2 : Within w w2 := (Within.refl w).drew.trans hb'
  have hlA : (dg (na + nb)).length ≤ 1500000 := by first | exact Nat.le_trans (dg_len_mono (Nat.sub_le _ _)) (by omega) | exact dg_add_le ha hb
  refine hK _ _ (fun h => ⟨(hb2.cells _ _ hlx).trans a1, (hb2.cells _ _ hly).trans b1⟩) ?_
  clear hK K
  try simp only [Act.put, List.setIfInBounds_toArray, List.set_cons_zero, List.set_cons_succ]
  refine sched_one rfl rfl (fun K hK => ?_)
  go_simp
  refine (Bput z true (dg (na + nb)) A' c' (words_dg _) hc' (by omega) w2 hr' (HZ.out.of hb2)).mono ?_
  rintro e3 w3 ⟨rfl, hI, hG⟩
  refine hK _ _ (fun h => absurd h (by decide)) ?_
  clear hK K
  try simp only [Act.put, List.setIfInBounds_toArray, List.set_cons_zero, List.set_cons_succ]
  refine sched_one rfl rfl (fun K hK => ?_)
  go_simp
  refine hK _ _ (fun h => absurd h (by decide)) ?_
  clear hK K
  try simp only [Act.put, List.setIfInBounds_toArray, List.set_cons_zero, List.set_cons_succ]
  refine sched_nil ?_
  go_wp2
  go_ret
  rw [wval_dg] at hI
  exact ⟨rfl, hI, grown_trans (grown_within z hb2) hG⟩
set_option maxRecDepth 100000 in
set_option maxHeartbeats 600000 in
theorem Bsum_ge111 (z x y : Nat) (na nb : Nat) (A Bv : Option Addr) (ca cb : Nat) (ha : (dg na).length ≤ 1000000) (hb : (dg nb).length ≤ 1000000) (w : World) (hz : IntTy w z) (a0 : w.cell? ⟨x, 0, none⟩ = some (.bool true)) (a1 : w.cell? ⟨x, 1, none⟩ = some (.slice A (dg na).length ca)) (hra : RowAt w A (dg na)) (b0 : w.cell? ⟨y, 0, none⟩ = some (.bool true)) (b1 : w.cell? ⟨y, 1, none⟩ = some (.slice Bv (dg nb).length cb)) (hrb : RowAt w Bv (dg nb)) (hge : nb ≤ na) : Calls Tryz.prog 136 #[.pointer (some ⟨z, 0, none⟩), .pointer (some ⟨x, 0, none⟩), .pointer (some ⟨y, 0, none⟩), .bool true] w (PutI w z (sgv true (na - nb))) := by
  have HZ := Lib.hid hz; have HRA := Lib.hid hra; have HRB := Lib.hid hrb; clear hz hra hrb
  have hlx := World.block_lt_of_cell? w _ a0
  have hly := World.block_lt_of_cell? w _ b0
  have hc : decide (cmpN na nb ≥ 0) = true := by unfold cmpN; rw [if_neg (by omega)]; split <;> rfl
  obtain ⟨cm, hcm⟩ : ∃ cm, cm = cmpN na nb := ⟨_, rfl⟩
  rw [← hcm] at hc
  have HC := Lib.hid hcm; clear hcm
  go_enter Tryz.func136, Tryz.ntmps136
  go_wp2
  refine wp_region_sched (fun W => W.cell? ⟨x, 1, none⟩ = some (.slice A (dg na).length ca) ∧ W.cell? ⟨y, 1, none⟩ = some (.slice Bv (dg nb).length cb)) 8 [(0, true), (1, true), (2, true), (3, true), (4, true), (5, true), (6, true), (7, true), (8, false), (9, false)] (by kernel_rfl) (by kernel_rfl) ⟨a1, b1⟩ ?_
  intro hS
  repeat
    apply sched_firm rfl rfl hS
    · intro wq hq
      have hq0 := hq.1; have hq1 := hq.2
      clear hq
      go_simp
      first | rfl | (trace_state; fail)
    try simp only [Act.put, List.setIfInBounds_toArray, List.set_cons_zero, List.set_cons_succ]
  refine sched_one rfl rfl (fun K hK => ?_)
  go_simp
  refine (Bcompare na nb A Bv ca cb (by omega) (by omega) w.drew (RowAt.drew HRA.out) (RowAt.drew HRB.out)).mono ?_
  rintro e1 w1 ⟨rfl, hb1'⟩
  rw [← HC.out]
  have hb1 : Within w w1 := (Within.refl w).drew.trans hb1'
  refine hK _ _ (fun h => absurd h (by decide)) ?_
  clear hK K
  try simp only [Act.put, List.setIfInBounds_toArray, List.set_cons_zero, List.set_cons_succ]
  refine sched_one rfl rfl (fun K hK => ?_)
  go_simp
  refine hK _ _ (fun h => absurd h (by decide)) ?_
  clear hK K
  try simp only [Act.put, List.setIfInBounds_toArray, List.set_cons_zero, List.set_cons_succ]
  refine sched_nil ?_
  have a0' := (hb1.cells _ 0 hlx).trans a0; have a1' := (hb1.cells _ 1 hlx).trans a1; have b0' := (hb1.cells _ 0 hly).trans b0; have b1' := (hb1.cells _ 1 hly).trans b1
  clear hS
  go_wp2
  refine wp_region_sched (fun W => W.cell? ⟨x, 0, none⟩ = some (.bool true) ∧ W.cell? ⟨x, 1, none⟩ = some (.slice A (dg na).length ca) ∧ W.cell? ⟨y, 1, none⟩ = some (.slice Bv (dg nb).length cb)) 14 [(0, true), (1, true), (2, true), (3, true), (4, true), (5, true), (6, true), (7, true), (8, true), (9, true), (10, true), (11, true), (12, true), (13, false), (14, false), (15, false)] (by kernel_rfl) (by kernel_rfl) ⟨a0', a1', b1'⟩ ?_
  intro hS
  repeat
    apply sched_firm rfl rfl hS
    · intro wq hq
      have hq0 := hq.1; have hq1 := hq.2.1; have hq2 := hq.2.2
      clear hq
      go_simp
      first | rfl | (trace_state; fail)
    try simp only [Act.put, List.setIfInBounds_toArray, List.set_cons_zero, List.set_cons_succ]
  refine sched_one rfl rfl (fun K hK => ?_)
  go_simp
  refine (Bminus na nb A Bv ca cb (by omega) hge w1.drew (RowAt.drew (HRA.out.of hb1)) (RowAt.drew (HRB.out.of hb1))).mono ?_
  rintro e2 w2 ⟨A', c', rfl, hc', hr', hb'⟩
  have hb2 : Within w w2 := hb1.drew.trans hb'
  have hlA : (dg (na - nb)).length ≤ 1500000 := by first | exact Nat.le_trans (dg_len_mono (Nat.sub_le _ _)) (by omega) | exact dg_add_le ha hb
  refine hK _ _ (fun h => ⟨(hb2.cells _ _ hlx).trans a0, (hb2.cells _ _ hlx).trans a1, (hb2.cells _ _ hly).trans b1⟩) ?_
  clear hK K
  try simp only [Act.put, List.setIfInBounds_toArray, List.set_cons_zero, List.set_cons_succ]
  refine sched_one rfl rfl (fun K hK => ?_)
  go_simp
  refine (Bput z true (dg (na - nb)) A' c' (words_dg _) hc' (by omega) w2 hr' (HZ.out.of hb2)).mono ?_
  rintro e3 w3 ⟨rfl, hI, hG⟩
  refine hK _ _ (fun h => absurd h (by decide)) ?_
  clear hK K
  try simp only [Act.put, List.setIfInBounds_toArray, List.set_cons_zero, List.set_cons_succ]
  refine sched_one rfl rfl (fun K hK => ?_)
  go_simp
  refine hK _ _ (fun h => absurd h (by decide)) ?_
  clear hK K
  try simp only [Act.put, List.setIfInBounds_toArray, List.set_cons_zero, List.set_cons_succ]
  refine sched_nil ?_
  go_wp2
  go_ret
  rw [wval_dg] at hI
  exact ⟨rfl, hI, grown_trans (grown_within z hb2) hG⟩
set_option maxRecDepth 100000 in
set_option maxHeartbeats 600000 in
theorem Bsum_lt111 (z x y : Nat) (na nb : Nat) (A Bv : Option Addr) (ca cb : Nat) (ha : (dg na).length ≤ 1000000) (hb : (dg nb).length ≤ 1000000) (w : World) (hz : IntTy w z) (a0 : w.cell? ⟨x, 0, none⟩ = some (.bool true)) (a1 : w.cell? ⟨x, 1, none⟩ = some (.slice A (dg na).length ca)) (hra : RowAt w A (dg na)) (b0 : w.cell? ⟨y, 0, none⟩ = some (.bool true)) (b1 : w.cell? ⟨y, 1, none⟩ = some (.slice Bv (dg nb).length cb)) (hrb : RowAt w Bv (dg nb)) (hge : na < nb) : Calls Tryz.prog 136 #[.pointer (some ⟨z, 0, none⟩), .pointer (some ⟨x, 0, none⟩), .pointer (some ⟨y, 0, none⟩), .bool true] w (PutI w z (sgv false (nb - na))) := by
  have HZ := Lib.hid hz; have HRA := Lib.hid hra; have HRB := Lib.hid hrb; clear hz hra hrb
  have hlx := World.block_lt_of_cell? w _ a0
  have hly := World.block_lt_of_cell? w _ b0
  have hc : decide (cmpN na nb ≥ 0) = false := by unfold cmpN; rw [if_pos hge]; rfl
  obtain ⟨cm, hcm⟩ : ∃ cm, cm = cmpN na nb := ⟨_, rfl⟩
  rw [← hcm] at hc
  have HC := Lib.hid hcm; clear hcm
  go_enter Tryz.func136, Tryz.ntmps136
  go_wp2
  refine wp_region_sched (fun W => W.cell? ⟨x, 1, none⟩ = some (.slice A (dg na).length ca) ∧ W.cell? ⟨y, 1, none⟩ = some (.slice Bv (dg nb).length cb)) 8 [(0, true), (1, true), (2, true), (3, true), (4, true), (5, true), (6, true), (7, true), (8, false), (9, false)] (by kernel_rfl) (by kernel_rfl) ⟨a1, b1⟩ ?_
  intro hS
  repeat
    apply sched_firm rfl rfl hS
    · intro wq hq
      have hq0 := hq.1; have hq1 := hq.2
      clear hq
      go_simp
      first | rfl | (trace_state; fail)
    try simp only [Act.put, List.setIfInBounds_toArray, List.set_cons_zero, List.set_cons_succ]
  refine sched_one rfl rfl (fun K hK => ?_)
  go_simp
  refine (Bcompare na nb A Bv ca cb (by omega) (by omega) w.drew (RowAt.drew HRA.out) (RowAt.drew HRB.out)).mono ?_
  rintro e1 w1 ⟨rfl, hb1'⟩
  rw [← HC.out]
  have hb1 : Within w w1 := (Within.refl w).drew.trans hb1'
  refine hK _ _ (fun h => absurd h (by decide)) ?_
  clear hK K
  try simp only [Act.put, List.setIfInBounds_toArray, List.set_cons_zero, List.set_cons_succ]
  refine sched_one rfl rfl (fun K hK => ?_)
  go_simp
  refine hK _ _ (fun h => absurd h (by decide)) ?_
  clear hK K
  try simp only [Act.put, List.setIfInBounds_toArray, List.set_cons_zero, List.set_cons_succ]
  refine sched_nil ?_
  have a0' := (hb1.cells _ 0 hlx).trans a0; have a1' := (hb1.cells _ 1 hlx).trans a1; have b0' := (hb1.cells _ 0 hly).trans b0; have b1' := (hb1.cells _ 1 hly).trans b1
  clear hS
  go_wp2
  refine wp_region_sched (fun W => W.cell? ⟨y, 1, none⟩ = some (.slice Bv (dg nb).length cb) ∧ W.cell? ⟨x, 1, none⟩ = some (.slice A (dg na).length ca)) 11 [(0, true), (1, true), (2, true), (3, true), (4, true), (5, true), (6, true), (7, true), (8, true), (9, true), (10, false), (11, false), (12, false)] (by kernel_rfl) (by kernel_rfl) ⟨b1', a1'⟩ ?_
  intro hS
  repeat
    apply sched_firm rfl rfl hS
    · intro wq hq
      have hq0 := hq.1; have hq1 := hq.2
      clear hq
      go_simp
      first | rfl | (trace_state; fail)
    try simp only [Act.put, List.setIfInBounds_toArray, List.set_cons_zero, List.set_cons_succ]
  refine sched_one rfl rfl (fun K hK => ?_)
  go_simp
  refine (Bminus nb na Bv A cb ca (by omega) (by omega) w1.drew (RowAt.drew (HRB.out.of hb1)) (RowAt.drew (HRA.out.of hb1))).mono ?_
  rintro e2 w2 ⟨A', c', rfl, hc', hr', hb'⟩
  have hb2 : Within w w2 := hb1.drew.trans hb'
  have hlA : (dg (nb - na)).length ≤ 1500000 := by first | exact Nat.le_trans (dg_len_mono (Nat.sub_le _ _)) (by omega) | exact dg_add_le ha hb
  refine hK _ _ (fun h => ⟨(hb2.cells _ _ hly).trans b1, (hb2.cells _ _ hlx).trans a1⟩) ?_
  clear hK K
  try simp only [Act.put, List.setIfInBounds_toArray, List.set_cons_zero, List.set_cons_succ]
  refine sched_one rfl rfl (fun K hK => ?_)
  go_simp
  refine (Bput z false (dg (nb - na)) A' c' (words_dg _) hc' (by omega) w2 hr' (HZ.out.of hb2)).mono ?_
  rintro e3 w3 ⟨rfl, hI, hG⟩
  refine hK _ _ (fun h => absurd h (by decide)) ?_
  clear hK K
  try simp only [Act.put, List.setIfInBounds_toArray, List.set_cons_zero, List.set_cons_succ]
  refine sched_one rfl rfl (fun K hK => ?_)
  go_simp
  refine hK _ _ (fun h => absurd h (by decide)) ?_
  clear hK K
  try simp only [Act.put, List.setIfInBounds_toArray, List.set_cons_zero, List.set_cons_succ]
  refine sched_nil ?_
  go_wp2
  go_ret
  rw [wval_dg] at hI
  exact ⟨rfl, hI, grown_trans (grown_within z hb2) hG⟩
theorem PutI_eq {W w' : World} {z : Nat} {v v' : Int} {e : Ending} (h : PutI W z v e w') (k : v = v') : PutI W z v' e w' := k ▸ h
theorem Bsum (z x y : Nat) (a b : Int) (turn : Bool) (ha : (dg a.natAbs).length ≤ 1000000) (hb : (dg b.natAbs).length ≤ 1000000) (w : World) (hz : IntTy w z) (hx : IntB w x a) (hy : IntB w y b) : Calls Tryz.prog 136 #[.pointer (some ⟨z, 0, none⟩), .pointer (some ⟨x, 0, none⟩), .pointer (some ⟨y, 0, none⟩), .bool turn] w (PutI w z (a + (if turn then -b else b))) := by
  obtain ⟨A, ca, a0, a1, hra⟩ := hx.rd
  obtain ⟨Bv, cb, b0, b1, hrb⟩ := hy.rd
  by_cases ha0 : a < 0 <;> by_cases hb0 : b < 0 <;> cases turn
  · have q1 : decide (a < 0) = true := decide_eq_true (by omega)
    have q2 : decide (b < 0) = true := decide_eq_true (by omega)
    rw [q1] at a0; rw [q2] at b0
    exact Calls.mono (Bsum_same110 z x y _ _ A Bv ca cb ha hb w hz a0 a1 hra b0 b1 hrb) (fun _ _ h => PutI_eq h (by unfold sgv; simp; omega))
  · have q1 : decide (a < 0) = true := decide_eq_true (by omega)
    have q2 : decide (b < 0) = true := decide_eq_true (by omega)
    rw [q1] at a0; rw [q2] at b0
    rcases Nat.lt_or_ge a.natAbs b.natAbs with h | h
    · exact Calls.mono (Bsum_lt111 z x y _ _ A Bv ca cb ha hb w hz a0 a1 hra b0 b1 hrb h) (fun _ _ h => PutI_eq h (by unfold sgv; simp; omega))
    · exact Calls.mono (Bsum_ge111 z x y _ _ A Bv ca cb ha hb w hz a0 a1 hra b0 b1 hrb h) (fun _ _ h => PutI_eq h (by unfold sgv; simp; omega))
  · have q1 : decide (a < 0) = true := decide_eq_true (by omega)
    have q2 : decide (b < 0) = false := decide_eq_false (by omega)
    rw [q1] at a0; rw [q2] at b0
    rcases Nat.lt_or_ge a.natAbs b.natAbs with h | h
    · exact Calls.mono (Bsum_lt100 z x y _ _ A Bv ca cb ha hb w hz a0 a1 hra b0 b1 hrb h) (fun _ _ h => PutI_eq h (by unfold sgv; simp; omega))
    · exact Calls.mono (Bsum_ge100 z x y _ _ A Bv ca cb ha hb w hz a0 a1 hra b0 b1 hrb h) (fun _ _ h => PutI_eq h (by unfold sgv; simp; omega))
  · have q1 : decide (a < 0) = true := decide_eq_true (by omega)
    have q2 : decide (b < 0) = false := decide_eq_false (by omega)
    rw [q1] at a0; rw [q2] at b0
    exact Calls.mono (Bsum_same101 z x y _ _ A Bv ca cb ha hb w hz a0 a1 hra b0 b1 hrb) (fun _ _ h => PutI_eq h (by unfold sgv; simp; omega))
  · have q1 : decide (a < 0) = false := decide_eq_false (by omega)
    have q2 : decide (b < 0) = true := decide_eq_true (by omega)
    rw [q1] at a0; rw [q2] at b0
    rcases Nat.lt_or_ge a.natAbs b.natAbs with h | h
    · exact Calls.mono (Bsum_lt010 z x y _ _ A Bv ca cb ha hb w hz a0 a1 hra b0 b1 hrb h) (fun _ _ h => PutI_eq h (by unfold sgv; simp; omega))
    · exact Calls.mono (Bsum_ge010 z x y _ _ A Bv ca cb ha hb w hz a0 a1 hra b0 b1 hrb h) (fun _ _ h => PutI_eq h (by unfold sgv; simp; omega))
  · have q1 : decide (a < 0) = false := decide_eq_false (by omega)
    have q2 : decide (b < 0) = true := decide_eq_true (by omega)
    rw [q1] at a0; rw [q2] at b0
    exact Calls.mono (Bsum_same011 z x y _ _ A Bv ca cb ha hb w hz a0 a1 hra b0 b1 hrb) (fun _ _ h => PutI_eq h (by unfold sgv; simp; omega))
  · have q1 : decide (a < 0) = false := decide_eq_false (by omega)
    have q2 : decide (b < 0) = false := decide_eq_false (by omega)
    rw [q1] at a0; rw [q2] at b0
    exact Calls.mono (Bsum_same000 z x y _ _ A Bv ca cb ha hb w hz a0 a1 hra b0 b1 hrb) (fun _ _ h => PutI_eq h (by unfold sgv; simp; omega))
  · have q1 : decide (a < 0) = false := decide_eq_false (by omega)
    have q2 : decide (b < 0) = false := decide_eq_false (by omega)
    rw [q1] at a0; rw [q2] at b0
    rcases Nat.lt_or_ge a.natAbs b.natAbs with h | h
    · exact Calls.mono (Bsum_lt001 z x y _ _ A Bv ca cb ha hb w hz a0 a1 hra b0 b1 hrb h) (fun _ _ h => PutI_eq h (by unfold sgv; simp; omega))
    · exact Calls.mono (Bsum_ge001 z x y _ _ A Bv ca cb ha hb w hz a0 a1 hra b0 b1 hrb h) (fun _ _ h => PutI_eq h (by unfold sgv; simp; omega))
set_option maxRecDepth 100000 in
set_option maxHeartbeats 600000 in
theorem BAdd (z x y : Nat) (a b : Int) (ha : (dg a.natAbs).length ≤ 1000000) (hb : (dg b.natAbs).length ≤ 1000000) (w : World) (hz : IntTy w z) (hx : IntB w x a) (hy : IntB w y b) : Calls Tryz.prog 103 #[.pointer (some ⟨z, 0, none⟩), .pointer (some ⟨x, 0, none⟩), .pointer (some ⟨y, 0, none⟩)] w (PutI w z (a + b)) := by
  have HS := Lib.hid (Bsum z x y a b false ha hb w hz hx hy)
  clear ha hb hz hx hy
  go_enter Tryz.func103, Tryz.ntmps103
  go_wp2_with fail
  refine HS.out.mono ?_; rintro e1 w1 ⟨rfl, hI, hG⟩
  go_wp2
  go_ret
  exact ⟨rfl, by simpa using hI, hG⟩
set_option maxRecDepth 100000 in
set_option maxHeartbeats 600000 in
theorem BSub (z x y : Nat) (a b : Int) (ha : (dg a.natAbs).length ≤ 1000000) (hb : (dg b.natAbs).length ≤ 1000000) (w : World) (hz : IntTy w z) (hx : IntB w x a) (hy : IntB w y b) : Calls Tryz.prog 177 #[.pointer (some ⟨z, 0, none⟩), .pointer (some ⟨x, 0, none⟩), .pointer (some ⟨y, 0, none⟩)] w (PutI w z (a - b)) := by
  have HS := Lib.hid (Bsum z x y a b true ha hb w hz hx hy)
  clear ha hb hz hx hy
  go_enter Tryz.func177, Tryz.ntmps177
  go_wp2_with fail
  refine HS.out.mono ?_; rintro e1 w1 ⟨rfl, hI, hG⟩
  go_wp2
  go_ret
  exact ⟨rfl, by simpa [Int.sub_eq_add_neg] using hI, hG⟩
end Go.Proofs.YtjmaggfddinbkaaGreatDoor
end

section
namespace Go.Proofs.YtjmaggfddinbkaaGreatDoor
open Go.RowKit
def TimesOut (W : World) (g : Nat) (la lb : List Nat) (iv : Value) (wr : World) : Prop :=
  ∃ (i : Nat) (o : List Nat), i ≤ la.length ∧ iv = .int .i64 (i : Int) ∧ o.length = la.length + lb.length ∧ Words o ∧ OwnW wr g o ∧ lo o (i + lb.length) = lo la i * wval lb ∧ Within W wr
def TimesIn (W : World) (g : Nat) (lb o0 : List Nat) (x i : Nat) (cv kv : Value) (wr : World) : Prop :=
  ∃ (k c : Nat) (o : List Nat), k ≤ lb.length ∧ c < 4294967296 ∧ cv = .int .u64 (c : Int) ∧ kv = .int .i64 (k : Int) ∧ o.length = o0.length ∧ Words o ∧ OwnW wr g o ∧ lo o (i + k) + 4294967296 ^ (i + k) * c = lo o0 (i + k) + 4294967296 ^ i * (x * lo lb k) ∧ (∀ j, i + k ≤ j → o.getD j 0 = o0.getD j 0) ∧ Within W wr
theorem TimesIn.step {W wr : World} {g : Nat} {lb o0 o : List Nat} {x i k c y z n : Nat} (u v q : Int) (hn : i + k < o.length) (hk : k < lb.length) (hc : c < 4294967296) (ho : o.length = o0.length) (hwo : Words o) (hown : OwnW wr g o)
    (hval : lo o (i + k) + 4294967296 ^ (i + k) * c = lo o0 (i + k) + 4294967296 ^ i * (x * lo lb k)) (hrest : ∀ j, i + k ≤ j → o.getD j 0 = o0.getD j 0) (hin : Within W wr) (hg : W.heap.size ≤ g)
    (hx : x < 4294967296) (hy : y = lb.getD k 0) (hy2 : y < 4294967296) (hz : z = o.getD (i + k) 0) (hz2 : z < 4294967296) (n' : Nat)
    (hu : u = (((x * y + z + c) / 4294967296 : Nat) : Int)) (hv : v = (((x * y + z + c) % 4294967296 : Nat) : Int)) (hq : q = ((k + 1 : Nat) : Int)) :
    TimesIn W g lb o0 x i (.int .u64 u) (.int .i64 q) ((wr.drewN n).setCell ⟨g, i + k, none⟩ (.int .u32 v)) := by
  subst hu hv hq
  have hm := word_mul hx hy2
  refine ⟨k + 1, (x * y + z + c) / 4294967296, o.set (i + k) ((x * y + z + c) % 4294967296), by omega, by omega, rfl, rfl, by rw [List.length_set]; exact ho, hwo.set _ _ (by omega), OwnW.set (w := wr.drewN n) hown _ _ hn, ?_, ?_, (hin.drewN n).setCell hg _⟩
  · rw [show i + (k + 1) = i + k + 1 by omega, lo_set_succ _ _ _ hn, lo_succ o0, lo_succ lb, ← hy, ← hrest (i + k) (Nat.le_refl _), ← hz, Nat.pow_succ]
    have := times_step (P := 4294967296 ^ (i + k)) (Q := 4294967296 ^ i * (x * (4294967296 ^ k * y))) (x := x) (y := y) (z := z) hval _ rfl (by rw [Nat.pow_add, Nat.mul_assoc]; congr 1; rw [Nat.mul_left_comm])
    rw [Nat.mul_add x, Nat.mul_add]
    exact this
  · intro j hj
    rw [lset_ne _ _ _ _ (by omega)]
    exact hrest j (by omega)
set_option maxRecDepth 100000 in
set_option maxHeartbeats 600000 in
theorem Btimes0 (la lb : List Nat) (A Bv : Option Addr) (ca cb : Nat) (hwa : Words la) (hwb : Words lb) (hla : la.length ≤ 700000) (hlb : lb.length ≤ 700000) (w : World) (hra : RowAt w A la) (hrb : RowAt w Bv lb) :
    Calls Tryz.prog 138 #[.slice A la.length ca, .slice Bv lb.length cb] w (RetW w (wval la * wval lb)) := by
  have hmk := run_make_row' (P := Tryz.prog) 100 133 (.int .u32 0) 4 (by kernel_rfl) Tryz.infoU32 rfl .i64 .i64 (la.length + lb.length) (by omega) (by omega)
  rw [show ((la.length + lb.length : Nat) : Int) = (la.length : Int) + (lb.length : Int) by omega] at hmk
  have HWA := Lib.hid hwa; have HWB := Lib.hid hwb; have HRA := Lib.hid hra; have HRB := Lib.hid hrb; clear hwa hwb hra hrb
  have HM := OwnW.made w (la.length + lb.length)
  go_enter Tryz.func138, Tryz.ntmps138
  go_wp2
  go_loopw [6] (fun iv wr => TimesOut w w.heap.size la lb iv wr) (fun iv _ => la.length - (intOf iv).toNat)
  case atStart => exact ⟨0, _, Nat.zero_le _, rfl, by simp, Words.zeros _, HM, by
    rw [lo_zero, lo, show (List.replicate (la.length + lb.length) 0).take (0 + lb.length) = List.replicate (0 + lb.length) 0 by rw [List.take_replicate]; congr 1; omega, wval_zeros]; simp, (Within.refl w).alloc _⟩
  case round =>
    obtain ⟨i, o, hi, rfl, ho, hwo, hown, hval, hin⟩ := hrel
    have HV := Lib.hid hval; have HO := Lib.hid ho; have HWO := Lib.hid hwo; clear hval ho hwo
    rcases Nat.lt_or_ge i la.length with hlt | hlt
    · go_wp2
      obtain ⟨wo, rfl⟩ : ∃ wo : World, wo = wr := ⟨_, rfl⟩
      obtain ⟨x, hxe⟩ : ∃ x, x = la.getD i 0 := ⟨_, rfl⟩
      have hx : x < 4294967296 := by rw [hxe]; exact HWA.out.getD _
      have HXE := Lib.hid hxe; clear hxe
      go_loopw [7, 8] (fun cv kv wr => TimesIn w w.heap.size lb o x i cv kv wr) (fun _ kv _ => lb.length - (intOf kv).toNat)
      case atStart => exact ⟨0, 0, o, Nat.zero_le _, by decide, rfl, rfl, rfl, HWO.out, hown, by simp [lo_zero], fun _ _ => rfl, hin⟩
      case round =>
        obtain ⟨k, c, o1, hk, hc, rfl, rfl, ho1, hwo1, hown1, hval1, hrest, hin1⟩ := hrel
        have HV1 := Lib.hid hval1; have HO1 := Lib.hid (ho1.trans HO.out); have HO2 := Lib.hid ho1; have HWO1 := Lib.hid hwo1; have HR := Lib.hid hrest; clear hval1 ho1 hwo1 hrest
        rcases Nat.lt_or_ge k lb.length with hlk | hlk
        · obtain ⟨ga, rfl, hga, hca⟩ := (HRA.out.of hin1).cell hlt
          rw [← HXE.out] at hca
          obtain ⟨gb, rfl, hgb, hcb⟩ := (HRB.out.of hin1).cell hlk
          obtain ⟨y, hye⟩ : ∃ y, y = lb.getD k 0 := ⟨_, rfl⟩
          have hy : y < 4294967296 := by rw [hye]; exact HWB.out.getD _
          rw [← hye] at hcb
          have HYE := Lib.hid hye; clear hye
          have hco := hown1.cell (i := i + k) (by rw [HO1.out]; omega)
          have hfo := hown1.frozen (i + k)
          obtain ⟨z, hze⟩ : ∃ z, z = o1.getD (i + k) 0 := ⟨_, rfl⟩
          have hz : z < 4294967296 := by rw [hze]; exact HWO1.out.getD _
          rw [← hze] at hco
          have HST := Lib.hid (fun (n : Nat) (u v q : Int) => TimesIn.step (x := x) (y := y) (z := z) (n := n) u v q (by rw [HO1.out]; omega) hlk hc HO2.out HWO1.out hown1 HV1.out HR.out hin1 (Nat.le_refl _) hx HYE.out hy hze hz 0)
          clear hze
          have hm := word_mul hx hy
          obtain ⟨p, hp⟩ : ∃ p, p = x * y := ⟨_, rfl⟩
          have e0 : (x : Int) * y = (p : Int) := by rw [hp]; simp
          rw [← hp] at hm HST
          clear hp
          have e1 : IntKind.u64.wrap (p : Int) = p := by rw [IntKind.wrap_u64]; omega
          have e2 : IntKind.u64.wrap ((p : Int) + z) = (p : Int) + z := by rw [IntKind.wrap_u64]; omega
          have e3 : IntKind.u64.wrap ((p : Int) + z + c) = (p : Int) + z + c := by rw [IntKind.wrap_u64]; omega
          have e4 : IntKind.i64.wrap ((i : Int) + k) = (i : Int) + k := IntWalk.i64_in _ (by omega)
          have e5 : ((i : Int) + k).toNat = i + k := by omega
          have HB := Lib.hid (And.intro hm (And.intro hz hc)); clear hm
          go_wp2
          go_quiet (fail)
          go_wp2
          go_roundw
          case rel => exact HST.out _ _ _ _ (by have := HB.out; omega) (by have := HB.out; omega) (by omega)
          case measure => simp [intOf]; omega
        · obtain rfl : k = lb.length := by omega
          have hco := hown1.cell (i := i + lb.length) (by rw [HO1.out]; omega)
          have hfo := hown1.frozen (i + lb.length)
          have HCC := Lib.hid hc
          go_wp2
          go_roundw
          case rel =>
            refine ⟨i + 1, o1.set (i + lb.length) c, by omega, by go_num, by rw [List.length_set]; exact HO1.out, HWO1.out.set _ _ HCC.out, ?_, ?_, hin1.setCell (Nat.le_refl _) _⟩
            · have := hown1.set (i + lb.length) c (by rw [HO1.out]; omega)
              exact this
            · rw [show i + 1 + lb.length = i + lb.length + 1 by omega, lo_set_succ _ _ _ (by rw [HO1.out]; omega), HV1.out, HV.out, lo_succ la, ← HXE.out, lo_all lb (Nat.le_refl _), Nat.add_mul, Nat.mul_assoc]
          case measure => simp [intOf]; omega
    · obtain rfl : i = la.length := by omega
      have CT := Lib.hid (Bcut o (some ⟨w.heap.size, 0, none⟩) (la.length + lb.length) HWO.out (by rw [HO.out]; exact Nat.le_refl _) (by rw [HO.out]; omega) _ hown.at)
      rw [HO.out] at CT
      go_wp2_with fail
      refine (CT.out).mono ?_; rintro e1 w1 ⟨rfl, rfl⟩
      go_wp2
      go_ret
      refine retW_cut hown.at HWO.out (by rw [HO.out]; exact Nat.le_refl _) hin ?_
      rw [← lo_all o (Nat.le_of_eq HO.out), HV.out, lo_all _ (Nat.le_refl _)]
theorem Btimes (a b : Nat) (A Bv : Option Addr) (ca cb : Nat) (ha : (dg a).length ≤ 700000) (hb : (dg b).length ≤ 700000) (w : World) (hra : RowAt w A (dg a)) (hrb : RowAt w Bv (dg b)) :
    Calls Tryz.prog 138 #[.slice A (dg a).length ca, .slice Bv (dg b).length cb] w (RetW w (a * b)) := by
  have := Btimes0 (dg a) (dg b) A Bv ca cb (words_dg a) (words_dg b) ha hb w hra hrb
  rw [wval_dg, wval_dg] at this
  exact this
end Go.Proofs.YtjmaggfddinbkaaGreatDoor
end

section
namespace Go.Proofs.YtjmaggfddinbkaaGreatDoor
open Go.RowKit
theorem dg_mul_len {a b n m : Nat} (ha : (dg a).length ≤ n) (hb : (dg b).length ≤ m) : (dg (a * b)).length ≤ n + m := by
  refine dg_len_le ?_
  have h1 := Nat.lt_of_lt_of_le (lt_of_dg a) (Nat.pow_le_pow_right (by decide) ha)
  have h2 := Nat.lt_of_lt_of_le (lt_of_dg b) (Nat.pow_le_pow_right (by decide) hb)
  rw [Nat.pow_add]
  exact Nat.mul_lt_mul_of_lt_of_le h1 (Nat.le_of_lt h2) (Nat.pow_pos (by decide))
theorem dg_shl_len {a n k : Nat} (ha : (dg a).length ≤ n) : (dg (a * 2 ^ (32 * k))).length ≤ n + k := by
  refine dg_len_le ?_
  have h1 := Nat.lt_of_lt_of_le (lt_of_dg a) (Nat.pow_le_pow_right (by decide) ha)
  rw [Nat.pow_add, Nat.pow_mul]
  exact Nat.mul_lt_mul_of_pos_right h1 (Nat.pow_pos (by decide))
theorem dg_shl_le {a n j k : Nat} (ha : (dg a).length ≤ n) (hj : j ≤ 32 * k) : (dg (a * 2 ^ j)).length ≤ n + k :=
  Nat.le_trans (dg_len_mono (Nat.mul_le_mul_left _ (Nat.pow_le_pow_right (by decide) hj))) (dg_shl_len ha)
set_option maxRecDepth 100000 in
set_option maxHeartbeats 600000 in
theorem Bmul0 (z x y : Nat) (sa sb : Bool) (na nb : Nat) (A Bv : Option Addr) (ca cb : Nat) (ha : (dg na).length ≤ 700000) (hb : (dg nb).length ≤ 700000) (w : World) (hz : IntTy w z) (a0 : w.cell? ⟨x, 0, none⟩ = some (.bool sa)) (a1 : w.cell? ⟨x, 1, none⟩ = some (.slice A (dg na).length ca)) (hra : RowAt w A (dg na)) (b0 : w.cell? ⟨y, 0, none⟩ = some (.bool sb)) (b1 : w.cell? ⟨y, 1, none⟩ = some (.slice Bv (dg nb).length cb)) (hrb : RowAt w Bv (dg nb)) : Calls Tryz.prog 105 #[.pointer (some ⟨z, 0, none⟩), .pointer (some ⟨x, 0, none⟩), .pointer (some ⟨y, 0, none⟩)] w (PutI w z (sgv (!sa == sb) (na * nb))) := by
  have HZ := Lib.hid hz; have HRA := Lib.hid hra; have HRB := Lib.hid hrb; clear hz hra hrb
  have hlx := World.block_lt_of_cell? w _ a0; have hly := World.block_lt_of_cell? w _ b0
  go_enter Tryz.func105, Tryz.ntmps105
  go_wp2
  refine wp_region_sched (fun W => W.cell? ⟨x, 0, none⟩ = some (.bool sa) ∧ W.cell? ⟨y, 0, none⟩ = some (.bool sb) ∧ W.cell? ⟨x, 1, none⟩ = some (.slice A (dg na).length ca) ∧ W.cell? ⟨y, 1, none⟩ = some (.slice Bv (dg nb).length cb)) 19 [(0, true), (1, true), (2, true), (3, true), (4, true), (5, true), (6, true), (7, true), (8, true), (9, true), (10, true), (11, true), (12, true), (13, true), (14, true), (15, true), (16, true), (17, true), (18, false), (19, false), (20, false)] (by kernel_rfl) (by kernel_rfl) ⟨a0, b0, a1, b1⟩ ?_
  intro hS
  repeat
    apply sched_firm rfl rfl hS
    · intro wq hq
      have hq0 := hq.1; have hq1 := hq.2.1; have hq2 := hq.2.2.1; have hq3 := hq.2.2.2
      clear hq
      go_simp
      first | rfl | (trace_state; fail)
    try simp only [Act.put, List.setIfInBounds_toArray, List.set_cons_zero, List.set_cons_succ]
  refine sched_one rfl rfl (fun K hK => ?_)
  go_simp
  refine (Btimes na nb A Bv ca cb ha hb w.drew (RowAt.drew HRA.out) (RowAt.drew HRB.out)).mono ?_
  rintro e2 w2 ⟨A', c', rfl, hc', hr', hb'⟩
  have hb2 : Within w w2 := (Within.refl w).drew.trans hb'
  refine hK _ _ (fun h => ⟨(hb2.cells _ _ hlx).trans a0, (hb2.cells _ _ hly).trans b0, (hb2.cells _ _ hlx).trans a1, (hb2.cells _ _ hly).trans b1⟩) ?_
  clear hK K
  try simp only [Act.put, List.setIfInBounds_toArray, List.set_cons_zero, List.set_cons_succ]
  refine sched_one rfl rfl (fun K hK => ?_)
  go_simp
  refine (Bput z _ (dg (na * nb)) A' c' (words_dg _) hc' (Nat.le_trans (dg_mul_len ha hb) (by decide)) w2 hr' (HZ.out.of hb2)).mono ?_
  rintro e3 w3 ⟨rfl, hI, hG⟩
  refine hK _ _ (fun h => absurd h (by decide)) ?_
  clear hK K
  try simp only [Act.put, List.setIfInBounds_toArray, List.set_cons_zero, List.set_cons_succ]
  refine sched_one rfl rfl (fun K hK => ?_)
  go_simp
  refine hK _ _ (fun h => absurd h (by decide)) ?_
  clear hK K
  try simp only [Act.put, List.setIfInBounds_toArray, List.set_cons_zero, List.set_cons_succ]
  refine sched_nil ?_
  go_wp2
  go_ret
  rw [wval_dg] at hI
  exact ⟨rfl, hI, grown_trans (grown_within z hb2) hG⟩
theorem Bmul (z x y : Nat) (a b : Int) (ha : (dg a.natAbs).length ≤ 700000) (hb : (dg b.natAbs).length ≤ 700000) (w : World) (hz : IntTy w z) (hx : IntB w x a) (hy : IntB w y b) : Calls Tryz.prog 105 #[.pointer (some ⟨z, 0, none⟩), .pointer (some ⟨x, 0, none⟩), .pointer (some ⟨y, 0, none⟩)] w (PutI w z (a * b)) := by
  obtain ⟨A, ca, a0, a1, hra⟩ := hx.rd
  obtain ⟨Bv, cb, b0, b1, hrb⟩ := hy.rd
  refine Calls.mono (Bmul0 z x y _ _ _ _ A Bv ca cb ha hb w hz a0 a1 hra b0 b1 hrb) (fun _ _ h => PutI_eq h ?_)
  unfold sgv
  rw [← Int.natAbs_mul]
  by_cases ha0 : a < 0 <;> by_cases hb0 : b < 0
  · have := Int.mul_pos_of_neg_of_neg ha0 hb0; simp [ha0, hb0]; omega
  · have := Int.mul_nonpos_of_nonpos_of_nonneg (Int.le_of_lt ha0) (Int.not_lt.1 hb0); simp [ha0, hb0]; omega
  · have := Int.mul_nonpos_of_nonneg_of_nonpos (Int.not_lt.1 ha0) (Int.le_of_lt hb0); simp [ha0, hb0]; omega
  · have := Int.mul_nonneg (Int.not_lt.1 ha0) (Int.not_lt.1 hb0); simp [ha0, hb0]; omega
set_option maxRecDepth 100000 in
set_option maxHeartbeats 600000 in
theorem Blsh0 (z x n : Nat) (sa : Bool) (na : Nat) (A : Option Addr) (ca : Nat) (ha : (dg na).length ≤ 400000) (hn : n ≤ 16000000) (w : World) (hz : IntTy w z) (a0 : w.cell? ⟨x, 0, none⟩ = some (.bool sa)) (a1 : w.cell? ⟨x, 1, none⟩ = some (.slice A (dg na).length ca)) (hra : RowAt w A (dg na)) : Calls Tryz.prog 137 #[.pointer (some ⟨z, 0, none⟩), .pointer (some ⟨x, 0, none⟩), .int .u64 (n : Int)] w (PutI w z (sgv sa (na * 2 ^ n))) := by
  have HZ := Lib.hid hz; have HRA := Lib.hid hra; clear hz hra
  have hlx := World.block_lt_of_cell? w _ a0
  go_enter Tryz.func137, Tryz.ntmps137
  go_wp2
  refine wp_region_sched (fun W => W.cell? ⟨x, 0, none⟩ = some (.bool sa) ∧ W.cell? ⟨x, 1, none⟩ = some (.slice A (dg na).length ca)) 11 [(0, true), (1, true), (2, true), (3, true), (4, true), (5, true), (6, true), (7, true), (8, true), (9, true), (10, false), (11, false), (12, false)] (by kernel_rfl) (by kernel_rfl) ⟨a0, a1⟩ ?_
  intro hS
  repeat
    apply sched_firm rfl rfl hS
    · intro wq hq
      have hq0 := hq.1; have hq1 := hq.2
      clear hq
      go_simp
      first | rfl | (trace_state; fail)
    try simp only [Act.put, List.setIfInBounds_toArray, List.set_cons_zero, List.set_cons_succ]
  refine sched_one rfl rfl (fun K hK => ?_)
  go_simp
  refine (Bleft na A ca n (by omega) hn w.drew (RowAt.drew HRA.out)).mono ?_
  rintro e2 w2 ⟨A', c', rfl, hc', hr', hb'⟩
  have hb2 : Within w w2 := (Within.refl w).drew.trans hb'
  refine hK _ _ (fun h => ⟨(hb2.cells _ _ hlx).trans a0, (hb2.cells _ _ hlx).trans a1⟩) ?_
  clear hK K
  try simp only [Act.put, List.setIfInBounds_toArray, List.set_cons_zero, List.set_cons_succ]
  refine sched_one rfl rfl (fun K hK => ?_)
  go_simp
  refine (Bput z _ (dg (na * 2 ^ n)) A' c' (words_dg _) hc' (Nat.le_trans (dg_shl_le (k := 500000) ha (by omega)) (by decide)) w2 hr' (HZ.out.of hb2)).mono ?_
  rintro e3 w3 ⟨rfl, hI, hG⟩
  refine hK _ _ (fun h => absurd h (by decide)) ?_
  clear hK K
  try simp only [Act.put, List.setIfInBounds_toArray, List.set_cons_zero, List.set_cons_succ]
  refine sched_one rfl rfl (fun K hK => ?_)
  go_simp
  refine hK _ _ (fun h => absurd h (by decide)) ?_
  clear hK K
  try simp only [Act.put, List.setIfInBounds_toArray, List.set_cons_zero, List.set_cons_succ]
  refine sched_nil ?_
  go_wp2
  go_ret
  rw [wval_dg] at hI
  exact ⟨rfl, hI, grown_trans (grown_within z hb2) hG⟩
theorem Blsh (z x n : Nat) (a : Int) (ha : (dg a.natAbs).length ≤ 400000) (hn : n ≤ 16000000) (w : World) (hz : IntTy w z) (hx : IntB w x a) : Calls Tryz.prog 137 #[.pointer (some ⟨z, 0, none⟩), .pointer (some ⟨x, 0, none⟩), .int .u64 (n : Int)] w (PutI w z (a * 2 ^ n)) := by
  obtain ⟨A, ca, a0, a1, hra⟩ := hx.rd
  refine Calls.mono (Blsh0 z x n _ _ A ca ha hn w hz a0 a1 hra) (fun _ _ h => PutI_eq h ?_)
  have e : ((a.natAbs * 2 ^ n : Nat) : Int) = (a.natAbs : Int) * 2 ^ n := by simp
  unfold sgv
  by_cases ha0 : a < 0
  · rw [if_pos (decide_eq_true ha0), e, ← Int.neg_mul]; congr 1; omega
  · rw [decide_eq_false ha0, if_neg (by decide), e]; congr 1; omega
set_option maxRecDepth 100000 in
set_option maxHeartbeats 600000 in
theorem Brsh0 (z x n : Nat) (na : Nat) (A : Option Addr) (ca : Nat) (ha : (dg na).length ≤ 1500000) (hn : n ≤ 40000000) (w : World) (hz : IntTy w z) (a0 : w.cell? ⟨x, 0, none⟩ = some (.bool false)) (a1 : w.cell? ⟨x, 1, none⟩ = some (.slice A (dg na).length ca)) (hra : RowAt w A (dg na)) : Calls Tryz.prog 100 #[.pointer (some ⟨z, 0, none⟩), .pointer (some ⟨x, 0, none⟩), .int .u64 (n : Int)] w (PutI w z ((na / 2 ^ n : Nat) : Int)) := by
  have HZ := Lib.hid hz; have HRA := Lib.hid hra; clear hz hra
  go_enter Tryz.func100, Tryz.ntmps100
  go_wp2_with fail
  refine (Bright na A ca n ha hn w HRA.out).mono ?_; rintro e2 w2 ⟨A', c', rfl, hc', hr', hb2⟩
  go_wp2_with fail
  refine (Bput z false (dg (na / 2 ^ n)) A' c' (words_dg _) hc' (Nat.le_trans (dg_len_mono (Nat.div_le_self _ _)) (by omega)) w2 hr' (HZ.out.of hb2)).mono ?_
  rintro e3 w3 ⟨rfl, hI, hG⟩
  go_wp2
  go_ret
  rw [wval_dg, sgv_no] at hI
  exact ⟨rfl, hI, grown_trans (grown_within z hb2) hG⟩
theorem Brsh (z x n : Nat) (a : Nat) (ha : (dg a).length ≤ 1500000) (hn : n ≤ 40000000) (w : World) (hz : IntTy w z) (hx : IntB w x a) : Calls Tryz.prog 100 #[.pointer (some ⟨z, 0, none⟩), .pointer (some ⟨x, 0, none⟩), .int .u64 (n : Int)] w (PutI w z ((a / 2 ^ n : Nat) : Int)) := by
  obtain ⟨A, ca, a0, a1, hra⟩ := hx.rd
  rw [decide_eq_false (by omega)] at a0
  exact Brsh0 z x n a A ca ha hn w hz a0 a1 hra
end Go.Proofs.YtjmaggfddinbkaaGreatDoor
end

section
namespace Go.Proofs.YtjmaggfddinbkaaGreatDoor
open Go.RowKit
attribute [go_sem] firmAt firmUpon
section
variable {P : Program} {ops : Array Oper} {Q : Exit → Act → World → Prop} {S : World → Prop} {p k : Nat} {a : Act} {w : World} {t : Sch}
theorem sch_one_want {o : Oper} (ho : ops.toList[k]? = some o) (hg : Region.wanted o (yielded ops a.tmps) = true) (h : ∀ K : Act → World → Prop, (∀ a' w', (k < p → S w') → wpSch P ops (OnlyN Q) S p t a' w' → K a' w') → o.wp P a w K (OnlyN Q)) : wpSch P ops (OnlyN Q) S p (.one k t) a w := by
  show wpOp P ops (OnlyN Q) k _ a w
  unfold wpOp
  rw [Array.getElem?_toList] at ho
  simp only [ho]
  rw [if_pos hg]
  exact .inl (h _ fun a' w' hS hr => ⟨hS, hr⟩)
end
end Go.Proofs.YtjmaggfddinbkaaGreatDoor
end

section
namespace Go.Proofs.YtjmaggfddinbkaaGreatDoor
open Go.RowKit
section
variable {P : Program} {ops : Array Oper}
end
def okAt (l : List Nat) (i : Nat) : Bool := decide (l.getD i 0 % 9223372036854775808 ≠ 0) && (decide (i = 0) || lowB (l.getD (i - 1) 0) (l.getD i 0))
def isB (l : List Nat) : Bool := decide (l.length ≤ 64) && l.all finD && (List.range l.length).all (okAt l)
theorem isB_no {l : List Nat} {k : Nat} (hk : k < l.length) (h : okAt l k = false) : isB l = false := by
  unfold isB
  have : (List.range l.length).all (okAt l) = false := by
    rw [List.all_eq_false]
    exact ⟨k, List.mem_range.2 hk, by rw [h]; decide⟩
  rw [this, Bool.and_false]
theorem isB_yes {l : List Nat} (h1 : l.length ≤ 64) (h2 : l.all finD = true) (h3 : ∀ k, k < l.length → okAt l k = true) : isB l = true := by
  unfold isB
  rw [decide_eq_true h1, h2, List.all_eq_true.2 (fun k hk => h3 k (List.mem_range.1 hk))]; rfl
theorem isB_long {l : List Nat} (h : 64 < l.length) : isB l = false := by
  unfold isB
  rw [decide_eq_false (by omega)]; rfl
theorem isB_fin {l : List Nat} (h : l.all finD = false) : isB l = false := by
  unfold isB
  rw [h]; simp
theorem fin_at {l : List Nat} (hw : Words64 l) (h : l.all finD = true) {k : Nat} (hk : k < l.length) : l.getD k 0 % 9223372036854775808 < 9218868437227405312 := by
  have hm : l.getD k 0 ∈ l := by rw [List.getD, List.getElem?_eq_getElem hk]; exact List.getElem_mem hk
  have := List.all_eq_true.1 h _ hm
  rw [finD_is (hw _ hm)] at this
  exact of_decide_eq_true this
set_option maxRecDepth 100000 in
set_option maxHeartbeats 600000 in
theorem eis_long (A : Option Addr) (c : Nat) (es : List Nat) (hw : Words64 es) (hl : es.length ≤ 1152921504606846976) (h64 : 64 < es.length) (w : World) (hT : Tab w) (hr : SlAt w A (f64v es)) : Calls Tryz.prog 17 #[.slice A es.length c] w fun e w' => e = .returned (.bool false) ∧ Within w w' := by
  have d : decide ((es.length : Int) > 64) = true := decide_eq_true (by omega)
  clear hw hr hT
  go_enter Tryz.func17, Tryz.ntmps17
  go_wp2
  go_ret
  exact ⟨rfl, Within.refl _⟩
set_option maxRecDepth 100000 in
set_option maxHeartbeats 600000 in
theorem eis_fin (A : Option Addr) (c : Nat) (es : List Nat) (hw : Words64 es) (hl : es.length ≤ 1152921504606846976) (h64 : es.length ≤ 64) (hf : es.all finD = false) (w : World) (hT : Tab w) (hr : SlAt w A (f64v es)) : Calls Tryz.prog 17 #[.slice A es.length c] w fun e w' => e = .returned (.bool false) ∧ Within w w' := by
  have d : decide ((es.length : Int) > 64) = false := decide_eq_false (by omega)
  have CF := Lib.hid (Finite_any A c es hw hl w hr)
  rw [hf] at CF
  clear hw hr hT hf
  go_enter Tryz.func17, Tryz.ntmps17
  go_wp2_with fail
  refine CF.out.mono ?_; rintro e1 w1 ⟨rfl, hb1⟩
  go_wp2
  go_ret
  exact ⟨rfl, hb1⟩
set_option maxRecDepth 100000 in
set_option maxHeartbeats 600000 in
theorem eis_main (A : Option Addr) (c : Nat) (es : List Nat) (hw : Words64 es) (hl : es.length ≤ 1152921504606846976) (h64 : es.length ≤ 64) (hf : es.all finD = true) (w : World) (hT : Tab w) (hr : SlAt w A (f64v es)) : Calls Tryz.prog 17 #[.slice A es.length c] w fun e w' => e = .returned (.bool (isB es)) ∧ Within w w' := by
  have d : decide ((es.length : Int) > 64) = false := decide_eq_false (by omega)
  have CF := Lib.hid (Finite_any A c es hw hl w hr)
  rw [hf] at CF
  have HW := Lib.hid hw; have HR := Lib.hid hr; have HT := Lib.hid hT; have HF := Lib.hid hf; have H64 := Lib.hid h64; clear hw hr hT hf
  go_enter Tryz.func17, Tryz.ntmps17
  go_wp2_with fail
  refine CF.out.mono ?_; rintro e1 w1 ⟨rfl, hb1⟩
  go_wp2
  go_loopw [14] (fun iv wr => ∃ k : Nat, k ≤ es.length ∧ iv = .int .i64 (k : Int) ∧ (∀ j, j < k → okAt es j = true) ∧ Within w wr) (fun iv _ => es.length - (intOf iv).toNat)
  case atStart => exact ⟨0, Nat.zero_le _, rfl, fun j hj => absurd hj (Nat.not_lt_zero _), hb1⟩
  case round =>
    obtain ⟨k, hk, rfl, hok, hin⟩ := hrel
    have HOK := Lib.hid hok; clear hok
    by_cases hlt : k < es.length
    · obtain ⟨ad, hA, hblk, hc⟩ := (HR.out.of hin).at hlt
      have fx := fin_at HW.out HF.out hlt
      have hx64 := HW.out.at hlt
      obtain ⟨x, hx⟩ : ∃ x, x = es.getD k 0 := ⟨_, rfl⟩
      rw [← hx] at hc fx hx64
      by_cases h0 : x % 9223372036854775808 = 0
      · have hz : (FloatKind.f64.format.order x 0 == some .eq) = true := by rw [c_zero, decide_eq_true h0]
        have NO := Lib.hid (isB_no hlt (by unfold okAt; rw [← hx, decide_eq_false (by omega)]; rfl))
        subst hA
        have cx := hc
        clear hc fx hx64 hx h0
        go_wp2
        go_region
        go_wp2
        go_ret
        exact ⟨(by rw [NO.out]; first | done | rfl), (by repeat (first | with_reducible exact Within.refl _ | with_reducible assumption | with_reducible refine arW_within ?_ _ _ _ | with_reducible refine Within.alloc ?_ _ | with_reducible refine Within.drew ?_ | with_reducible refine Within.trans ?_ (by assumption)))⟩
      · have hz : (FloatKind.f64.format.order x 0 == some .eq) = false := by rw [c_zero, decide_eq_false h0]
        rcases k with _ | j
        · have OKN := Lib.hid (show ∀ j, j < 0 + 1 → okAt es j = true by
            intro j hj
            have : j = 0 := by omega
            subst this
            unfold okAt
            rw [← hx, decide_eq_true (by omega)]; rfl)
          subst hA
          have cx : wr.cell? ad = some (.float .f64 x) := hc
          clear hc fx hx64 hx h0
          go_wp2
          go_region
          go_wp2
          go_roundw
          case rel => exact ⟨0 + 1, hlt, by go_num, OKN.out, (by repeat (first | with_reducible exact Within.refl _ | with_reducible assumption | with_reducible refine arW_within ?_ _ _ _ | with_reducible refine Within.alloc ?_ _ | with_reducible refine Within.drew ?_ | with_reducible refine Within.trans ?_ (by assumption)))⟩
          case measure => simp [intOf]; omega
        · obtain ⟨ad', hA', _, hc'⟩ := (HR.out.of hin).at (k := j) (by omega)
          have ead : ad = ad' := by rw [hA] at hA'; injection hA' with h
          subst ead
          have fy := fin_at HW.out HF.out (k := j) (by omega)
          have hy64 := HW.out.at (k := j) (by omega)
          obtain ⟨y, hy⟩ : ∃ y, y = es.getD j 0 := ⟨_, rfl⟩
          rw [← hy] at hc' fy hy64
          have CA := Lib.hid (fun w => Eabs y hy64 fy w)
          have CL := Lib.hid (fun w hT => Elast x hx64 w hT)
          have hge := geq_low hy64 fy fx
          obtain ⟨a, ha⟩ : ∃ a, a = absB y := ⟨_, rfl⟩
          obtain ⟨r, hr⟩ : ∃ r, r = madeD false 1 (pExpD x) := ⟨_, rfl⟩
          rw [← ha] at CA hge
          rw [← hr] at CL hge
          clear ha hr
          have e9 : IntKind.i64.wrap (((j + 1 : Nat) : Int) - 1) = (j : Int) := by rw [IntWalk.i64_in _ (by omega)]; omega
          have e8 : decide (((j + 1 : Nat) : Int) > 0) = true := decide_eq_true (by omega)
          have e8' : decide ((j : Int) + 1 > 0) = true := decide_eq_true (by omega)
          have hTr : Tab wr := HT.out.of hin
          have HIN := Lib.hid hin; clear hin
          subst hA
          have cx := hc
          have cy := hc'
          clear hc hc' hA' fx fy hx64 hy64
          obtain ⟨k, hke⟩ : ∃ k, k = j + 1 := ⟨_, rfl⟩
          cases hlb : lowB y x
          · rw [hlb] at hge
            have NO := Lib.hid (isB_no hlt (by unfold okAt; rw [← hx, Nat.add_sub_cancel, ← hy, hlb, decide_eq_false (Nat.succ_ne_zero j)]; simp))
            clear hlb hx hy h0
            rw [← hke] at hlt cx e8 e9 ⊢
            have hjl : j < es.length := by omega
            have hk0 : 0 < k := by omega
            have HKE := Lib.hid hke; clear hke e8'
            go_wp2
            refine wp_region_schG (fun W => W.cell? (ad.add k) = some (.float .f64 x) ∧ W.cell? (ad.add j) = some (.float .f64 y) ∧ ad.block < W.heap.size ∧ Tab W ∧ Within w W) 22 (.firm 0 (.firm 1 (.firm 2 (.firm 3 (.firm 4 (.firm 5 (.firm 6 (.firm 7 (.firm 8 (.firm 9 (.firm 10 (.firm 11 (.firm 12 (.firm 13 (.firm 15 (.firm 16 (.firm 17 (.firm 18 (.one 14 (.one 19 (.firm 20 (.firm 21 (.one 22 .nil))))))))))))))))))))))) (by kernel_rfl) (by kernel_rfl) ⟨cx, cy, hblk, hTr, HIN.out⟩ ?_
            rintro w0 ⟨cx, cy, hblk, hTw, hw0⟩
            try simp only [Act.put, List.setIfInBounds_toArray, List.set_cons_zero, List.set_cons_succ]
            apply sch_firm rfl rfl (by repeat (first | with_reducible exact Within.refl _ | with_reducible assumption | with_reducible refine Within.alloc ?_ _ | with_reducible refine Within.drew ?_ | with_reducible refine Within.drewN ?_ _ | with_reducible refine Within.setCell ?_ (by first | (simp; done) | (simp; omega)) _ | with_reducible refine Within.trans ?_ (by assumption)))
            · intro wq hq
              have hcq := hq.cells
              have gx := (hq.cell (p := ad.add k) (by rw [add_block]; exact hblk)).trans cx
              have gxb := Nat.lt_of_lt_of_le hblk hq.size
              have gy := (hq.cell (p := ad.add j) (by rw [add_block]; exact hblk)).trans cy
              clear hq
              go_simp
              first | rfl | (trace_state; fail)
            try simp only [Act.put, List.setIfInBounds_toArray, List.set_cons_zero, List.set_cons_succ]
            apply sch_firm rfl rfl (by repeat (first | with_reducible exact Within.refl _ | with_reducible assumption | with_reducible refine Within.alloc ?_ _ | with_reducible refine Within.drew ?_ | with_reducible refine Within.drewN ?_ _ | with_reducible refine Within.setCell ?_ (by first | (simp; done) | (simp; omega)) _ | with_reducible refine Within.trans ?_ (by assumption)))
            · intro wq hq
              have hcq := hq.cells
              have gx := (hq.cell (p := ad.add k) (by rw [add_block]; exact hblk)).trans cx
              have gxb := Nat.lt_of_lt_of_le hblk hq.size
              have gy := (hq.cell (p := ad.add j) (by rw [add_block]; exact hblk)).trans cy
              clear hq
              go_simp
              first | rfl | (trace_state; fail)
            try simp only [Act.put, List.setIfInBounds_toArray, List.set_cons_zero, List.set_cons_succ]
            apply sch_firm rfl rfl (by repeat (first | with_reducible exact Within.refl _ | with_reducible assumption | with_reducible refine Within.alloc ?_ _ | with_reducible refine Within.drew ?_ | with_reducible refine Within.drewN ?_ _ | with_reducible refine Within.setCell ?_ (by first | (simp; done) | (simp; omega)) _ | with_reducible refine Within.trans ?_ (by assumption)))
            · intro wq hq
              have hcq := hq.cells
              have gx := (hq.cell (p := ad.add k) (by rw [add_block]; exact hblk)).trans cx
              have gxb := Nat.lt_of_lt_of_le hblk hq.size
              have gy := (hq.cell (p := ad.add j) (by rw [add_block]; exact hblk)).trans cy
              clear hq
              go_simp
              first | rfl | (trace_state; fail)
            try simp only [Act.put, List.setIfInBounds_toArray, List.set_cons_zero, List.set_cons_succ]
            apply sch_firm rfl rfl (by repeat (first | with_reducible exact Within.refl _ | with_reducible assumption | with_reducible refine Within.alloc ?_ _ | with_reducible refine Within.drew ?_ | with_reducible refine Within.drewN ?_ _ | with_reducible refine Within.setCell ?_ (by first | (simp; done) | (simp; omega)) _ | with_reducible refine Within.trans ?_ (by assumption)))
            · intro wq hq
              have hcq := hq.cells
              have gx := (hq.cell (p := ad.add k) (by rw [add_block]; exact hblk)).trans cx
              have gxb := Nat.lt_of_lt_of_le hblk hq.size
              have gy := (hq.cell (p := ad.add j) (by rw [add_block]; exact hblk)).trans cy
              clear hq
              go_simp
              first | rfl | (trace_state; fail)
            try simp only [Act.put, List.setIfInBounds_toArray, List.set_cons_zero, List.set_cons_succ]
            apply sch_firm rfl rfl (by repeat (first | with_reducible exact Within.refl _ | with_reducible assumption | with_reducible refine Within.alloc ?_ _ | with_reducible refine Within.drew ?_ | with_reducible refine Within.drewN ?_ _ | with_reducible refine Within.setCell ?_ (by first | (simp; done) | (simp; omega)) _ | with_reducible refine Within.trans ?_ (by assumption)))
            · intro wq hq
              have hcq := hq.cells
              have gx := (hq.cell (p := ad.add k) (by rw [add_block]; exact hblk)).trans cx
              have gxb := Nat.lt_of_lt_of_le hblk hq.size
              have gy := (hq.cell (p := ad.add j) (by rw [add_block]; exact hblk)).trans cy
              clear hq
              go_simp
              first | rfl | (trace_state; fail)
            try simp only [Act.put, List.setIfInBounds_toArray, List.set_cons_zero, List.set_cons_succ]
            apply sch_firm rfl rfl (by repeat (first | with_reducible exact Within.refl _ | with_reducible assumption | with_reducible refine Within.alloc ?_ _ | with_reducible refine Within.drew ?_ | with_reducible refine Within.drewN ?_ _ | with_reducible refine Within.setCell ?_ (by first | (simp; done) | (simp; omega)) _ | with_reducible refine Within.trans ?_ (by assumption)))
            · intro wq hq
              have hcq := hq.cells
              have gx := (hq.cell (p := ad.add k) (by rw [add_block]; exact hblk)).trans cx
              have gxb := Nat.lt_of_lt_of_le hblk hq.size
              have gy := (hq.cell (p := ad.add j) (by rw [add_block]; exact hblk)).trans cy
              clear hq
              go_simp
              first | rfl | (trace_state; fail)
            try simp only [Act.put, List.setIfInBounds_toArray, List.set_cons_zero, List.set_cons_succ]
            apply sch_want rfl (by first | rfl | decide | (simp [Region.wanted, yielded]; done) | (simp [Region.wanted, yielded]; assumption)) (by repeat (first | with_reducible exact Within.refl _ | with_reducible assumption | with_reducible refine Within.alloc ?_ _ | with_reducible refine Within.drew ?_ | with_reducible refine Within.drewN ?_ _ | with_reducible refine Within.setCell ?_ (by first | (simp; done) | (simp; omega)) _ | with_reducible refine Within.trans ?_ (by assumption)))
            · intro wq hq
              have hcq := hq.cells
              have gx := (hq.cell (p := ad.add k) (by rw [add_block]; exact hblk)).trans cx
              have gxb := Nat.lt_of_lt_of_le hblk hq.size
              have gy := (hq.cell (p := ad.add j) (by rw [add_block]; exact hblk)).trans cy
              clear hq
              go_simp
              first | rfl | (trace_state; fail)
            try simp only [Act.put, List.setIfInBounds_toArray, List.set_cons_zero, List.set_cons_succ]
            apply sch_want rfl (by first | rfl | decide | (simp [Region.wanted, yielded]; done) | (simp [Region.wanted, yielded]; assumption)) (by repeat (first | with_reducible exact Within.refl _ | with_reducible assumption | with_reducible refine Within.alloc ?_ _ | with_reducible refine Within.drew ?_ | with_reducible refine Within.drewN ?_ _ | with_reducible refine Within.setCell ?_ (by first | (simp; done) | (simp; omega)) _ | with_reducible refine Within.trans ?_ (by assumption)))
            · intro wq hq
              have hcq := hq.cells
              have gx := (hq.cell (p := ad.add k) (by rw [add_block]; exact hblk)).trans cx
              have gxb := Nat.lt_of_lt_of_le hblk hq.size
              have gy := (hq.cell (p := ad.add j) (by rw [add_block]; exact hblk)).trans cy
              clear hq
              go_simp
              first | rfl | (trace_state; fail)
            try simp only [Act.put, List.setIfInBounds_toArray, List.set_cons_zero, List.set_cons_succ]
            apply sch_want rfl (by first | rfl | decide | (simp [Region.wanted, yielded]; done) | (simp [Region.wanted, yielded]; assumption)) (by repeat (first | with_reducible exact Within.refl _ | with_reducible assumption | with_reducible refine Within.alloc ?_ _ | with_reducible refine Within.drew ?_ | with_reducible refine Within.drewN ?_ _ | with_reducible refine Within.setCell ?_ (by first | (simp; done) | (simp; omega)) _ | with_reducible refine Within.trans ?_ (by assumption)))
            · intro wq hq
              have hcq := hq.cells
              have gx := (hq.cell (p := ad.add k) (by rw [add_block]; exact hblk)).trans cx
              have gxb := Nat.lt_of_lt_of_le hblk hq.size
              have gy := (hq.cell (p := ad.add j) (by rw [add_block]; exact hblk)).trans cy
              clear hq
              go_simp
              first | rfl | (trace_state; fail)
            try simp only [Act.put, List.setIfInBounds_toArray, List.set_cons_zero, List.set_cons_succ]
            apply sch_want rfl (by first | rfl | decide | (simp [Region.wanted, yielded]; done) | (simp [Region.wanted, yielded]; assumption)) (by repeat (first | with_reducible exact Within.refl _ | with_reducible assumption | with_reducible refine Within.alloc ?_ _ | with_reducible refine Within.drew ?_ | with_reducible refine Within.drewN ?_ _ | with_reducible refine Within.setCell ?_ (by first | (simp; done) | (simp; omega)) _ | with_reducible refine Within.trans ?_ (by assumption)))
            · intro wq hq
              have hcq := hq.cells
              have gx := (hq.cell (p := ad.add k) (by rw [add_block]; exact hblk)).trans cx
              have gxb := Nat.lt_of_lt_of_le hblk hq.size
              have gy := (hq.cell (p := ad.add j) (by rw [add_block]; exact hblk)).trans cy
              clear hq
              go_simp
              first | rfl | (trace_state; fail)
            try simp only [Act.put, List.setIfInBounds_toArray, List.set_cons_zero, List.set_cons_succ]
            apply sch_want rfl (by first | rfl | decide | (simp [Region.wanted, yielded]; done) | (simp [Region.wanted, yielded]; assumption)) (by repeat (first | with_reducible exact Within.refl _ | with_reducible assumption | with_reducible refine Within.alloc ?_ _ | with_reducible refine Within.drew ?_ | with_reducible refine Within.drewN ?_ _ | with_reducible refine Within.setCell ?_ (by first | (simp; done) | (simp; omega)) _ | with_reducible refine Within.trans ?_ (by assumption)))
            · intro wq hq
              have hcq := hq.cells
              have gx := (hq.cell (p := ad.add k) (by rw [add_block]; exact hblk)).trans cx
              have gxb := Nat.lt_of_lt_of_le hblk hq.size
              have gy := (hq.cell (p := ad.add j) (by rw [add_block]; exact hblk)).trans cy
              clear hq
              go_simp
              first | rfl | (trace_state; fail)
            try simp only [Act.put, List.setIfInBounds_toArray, List.set_cons_zero, List.set_cons_succ]
            apply sch_want rfl (by first | rfl | decide | (simp [Region.wanted, yielded]; done) | (simp [Region.wanted, yielded]; assumption)) (by repeat (first | with_reducible exact Within.refl _ | with_reducible assumption | with_reducible refine Within.alloc ?_ _ | with_reducible refine Within.drew ?_ | with_reducible refine Within.drewN ?_ _ | with_reducible refine Within.setCell ?_ (by first | (simp; done) | (simp; omega)) _ | with_reducible refine Within.trans ?_ (by assumption)))
            · intro wq hq
              have hcq := hq.cells
              have gx := (hq.cell (p := ad.add k) (by rw [add_block]; exact hblk)).trans cx
              have gxb := Nat.lt_of_lt_of_le hblk hq.size
              have gy := (hq.cell (p := ad.add j) (by rw [add_block]; exact hblk)).trans cy
              clear hq
              go_simp
              first | rfl | (trace_state; fail)
            try simp only [Act.put, List.setIfInBounds_toArray, List.set_cons_zero, List.set_cons_succ]
            apply sch_want rfl (by first | rfl | decide | (simp [Region.wanted, yielded]; done) | (simp [Region.wanted, yielded]; assumption)) (by repeat (first | with_reducible exact Within.refl _ | with_reducible assumption | with_reducible refine Within.alloc ?_ _ | with_reducible refine Within.drew ?_ | with_reducible refine Within.drewN ?_ _ | with_reducible refine Within.setCell ?_ (by first | (simp; done) | (simp; omega)) _ | with_reducible refine Within.trans ?_ (by assumption)))
            · intro wq hq
              have hcq := hq.cells
              have gx := (hq.cell (p := ad.add k) (by rw [add_block]; exact hblk)).trans cx
              have gxb := Nat.lt_of_lt_of_le hblk hq.size
              have gy := (hq.cell (p := ad.add j) (by rw [add_block]; exact hblk)).trans cy
              clear hq
              go_simp
              first | rfl | (trace_state; fail)
            try simp only [Act.put, List.setIfInBounds_toArray, List.set_cons_zero, List.set_cons_succ]
            apply sch_want rfl (by first | rfl | decide | (simp [Region.wanted, yielded]; done) | (simp [Region.wanted, yielded]; assumption)) (by repeat (first | with_reducible exact Within.refl _ | with_reducible assumption | with_reducible refine Within.alloc ?_ _ | with_reducible refine Within.drew ?_ | with_reducible refine Within.drewN ?_ _ | with_reducible refine Within.setCell ?_ (by first | (simp; done) | (simp; omega)) _ | with_reducible refine Within.trans ?_ (by assumption)))
            · intro wq hq
              have hcq := hq.cells
              have gx := (hq.cell (p := ad.add k) (by rw [add_block]; exact hblk)).trans cx
              have gxb := Nat.lt_of_lt_of_le hblk hq.size
              have gy := (hq.cell (p := ad.add j) (by rw [add_block]; exact hblk)).trans cy
              clear hq
              go_simp
              first | rfl | (trace_state; fail)
            try simp only [Act.put, List.setIfInBounds_toArray, List.set_cons_zero, List.set_cons_succ]
            apply sch_want rfl (by first | rfl | decide | (simp [Region.wanted, yielded]; done) | (simp [Region.wanted, yielded]; assumption)) (by repeat (first | with_reducible exact Within.refl _ | with_reducible assumption | with_reducible refine Within.alloc ?_ _ | with_reducible refine Within.drew ?_ | with_reducible refine Within.drewN ?_ _ | with_reducible refine Within.setCell ?_ (by first | (simp; done) | (simp; omega)) _ | with_reducible refine Within.trans ?_ (by assumption)))
            · intro wq hq
              have hcq := hq.cells
              have gx := (hq.cell (p := ad.add k) (by rw [add_block]; exact hblk)).trans cx
              have gxb := Nat.lt_of_lt_of_le hblk hq.size
              have gy := (hq.cell (p := ad.add j) (by rw [add_block]; exact hblk)).trans cy
              clear hq
              go_simp
              first | rfl | (trace_state; fail)
            try simp only [Act.put, List.setIfInBounds_toArray, List.set_cons_zero, List.set_cons_succ]
            apply sch_want rfl (by first | rfl | decide | (simp [Region.wanted, yielded]; done) | (simp [Region.wanted, yielded]; assumption)) (by repeat (first | with_reducible exact Within.refl _ | with_reducible assumption | with_reducible refine Within.alloc ?_ _ | with_reducible refine Within.drew ?_ | with_reducible refine Within.drewN ?_ _ | with_reducible refine Within.setCell ?_ (by first | (simp; done) | (simp; omega)) _ | with_reducible refine Within.trans ?_ (by assumption)))
            · intro wq hq
              have hcq := hq.cells
              have gx := (hq.cell (p := ad.add k) (by rw [add_block]; exact hblk)).trans cx
              have gxb := Nat.lt_of_lt_of_le hblk hq.size
              have gy := (hq.cell (p := ad.add j) (by rw [add_block]; exact hblk)).trans cy
              clear hq
              go_simp
              first | rfl | (trace_state; fail)
            try simp only [Act.put, List.setIfInBounds_toArray, List.set_cons_zero, List.set_cons_succ]
            apply sch_want rfl (by first | rfl | decide | (simp [Region.wanted, yielded]; done) | (simp [Region.wanted, yielded]; assumption)) (by repeat (first | with_reducible exact Within.refl _ | with_reducible assumption | with_reducible refine Within.alloc ?_ _ | with_reducible refine Within.drew ?_ | with_reducible refine Within.drewN ?_ _ | with_reducible refine Within.setCell ?_ (by first | (simp; done) | (simp; omega)) _ | with_reducible refine Within.trans ?_ (by assumption)))
            · intro wq hq
              have hcq := hq.cells
              have gx := (hq.cell (p := ad.add k) (by rw [add_block]; exact hblk)).trans cx
              have gxb := Nat.lt_of_lt_of_le hblk hq.size
              have gy := (hq.cell (p := ad.add j) (by rw [add_block]; exact hblk)).trans cy
              clear hq
              go_simp
              first | rfl | (trace_state; fail)
            try simp only [Act.put, List.setIfInBounds_toArray, List.set_cons_zero, List.set_cons_succ]
            apply sch_want rfl (by first | rfl | decide | (simp [Region.wanted, yielded]; done) | (simp [Region.wanted, yielded]; assumption)) (by repeat (first | with_reducible exact Within.refl _ | with_reducible assumption | with_reducible refine Within.alloc ?_ _ | with_reducible refine Within.drew ?_ | with_reducible refine Within.drewN ?_ _ | with_reducible refine Within.setCell ?_ (by first | (simp; done) | (simp; omega)) _ | with_reducible refine Within.trans ?_ (by assumption)))
            · intro wq hq
              have hcq := hq.cells
              have gx := (hq.cell (p := ad.add k) (by rw [add_block]; exact hblk)).trans cx
              have gxb := Nat.lt_of_lt_of_le hblk hq.size
              have gy := (hq.cell (p := ad.add j) (by rw [add_block]; exact hblk)).trans cy
              clear hq
              go_simp
              first | rfl | (trace_state; fail)
            try simp only [Act.put, List.setIfInBounds_toArray, List.set_cons_zero, List.set_cons_succ]
            refine sch_one_want rfl (by first | rfl | decide | (simp [Region.wanted, yielded]; done) | (simp [Region.wanted, yielded]; assumption)) (fun K hK => ?_)
            go_simp
            refine (CA.out _).mono ?_; rintro e5 w5 ⟨rfl, rfl⟩
            refine hK _ _ (fun _ => (by repeat (first | with_reducible exact Within.refl _ | with_reducible assumption | with_reducible refine Within.alloc ?_ _ | with_reducible refine Within.drew ?_ | with_reducible refine Within.drewN ?_ _ | with_reducible refine Within.setCell ?_ (by first | (simp; done) | (simp; omega)) _ | with_reducible refine Within.trans ?_ (by assumption)))) ?_
            clear hK K
            try simp only [Act.put, List.setIfInBounds_toArray, List.set_cons_zero, List.set_cons_succ]
            refine sch_one_want rfl (by first | rfl | decide | (simp [Region.wanted, yielded]; done) | (simp [Region.wanted, yielded]; assumption)) (fun K hK => ?_)
            go_simp
            refine (CL.out _ (hTw.of (by repeat (first | with_reducible exact Within.refl _ | with_reducible assumption | with_reducible refine Within.drew ?_ | with_reducible refine Within.trans ?_ (by assumption))))).mono ?_; rintro e6 w6 ⟨rfl, hb6⟩
            refine hK _ _ (fun _ => (by repeat (first | with_reducible exact Within.refl _ | with_reducible assumption | with_reducible refine Within.alloc ?_ _ | with_reducible refine Within.drew ?_ | with_reducible refine Within.drewN ?_ _ | with_reducible refine Within.setCell ?_ (by first | (simp; done) | (simp; omega)) _ | with_reducible refine Within.trans ?_ (by assumption)))) ?_
            clear hK K
            try simp only [Act.put, List.setIfInBounds_toArray, List.set_cons_zero, List.set_cons_succ]
            apply sch_want rfl (by first | rfl | decide | (simp [Region.wanted, yielded]; done) | (simp [Region.wanted, yielded]; assumption)) (by repeat (first | with_reducible exact Within.refl _ | with_reducible assumption | with_reducible refine Within.alloc ?_ _ | with_reducible refine Within.drew ?_ | with_reducible refine Within.drewN ?_ _ | with_reducible refine Within.setCell ?_ (by first | (simp; done) | (simp; omega)) _ | with_reducible refine Within.trans ?_ (by assumption)))
            · intro wq hq
              have hcq := hq.cells
              have gx := (hq.cell (p := ad.add k) (by rw [add_block]; exact hblk)).trans cx
              have gxb := Nat.lt_of_lt_of_le hblk hq.size
              have gy := (hq.cell (p := ad.add j) (by rw [add_block]; exact hblk)).trans cy
              clear hq
              go_simp
              first | rfl | (trace_state; fail)
            try simp only [Act.put, List.setIfInBounds_toArray, List.set_cons_zero, List.set_cons_succ]
            apply sch_want rfl (by first | rfl | decide | (simp [Region.wanted, yielded]; done) | (simp [Region.wanted, yielded]; assumption)) (by repeat (first | with_reducible exact Within.refl _ | with_reducible assumption | with_reducible refine Within.alloc ?_ _ | with_reducible refine Within.drew ?_ | with_reducible refine Within.drewN ?_ _ | with_reducible refine Within.setCell ?_ (by first | (simp; done) | (simp; omega)) _ | with_reducible refine Within.trans ?_ (by assumption)))
            · intro wq hq
              have hcq := hq.cells
              have gx := (hq.cell (p := ad.add k) (by rw [add_block]; exact hblk)).trans cx
              have gxb := Nat.lt_of_lt_of_le hblk hq.size
              have gy := (hq.cell (p := ad.add j) (by rw [add_block]; exact hblk)).trans cy
              clear hq
              go_simp
              first | rfl | (trace_state; fail)
            try simp only [Act.put, List.setIfInBounds_toArray, List.set_cons_zero, List.set_cons_succ]
            refine sch_one rfl rfl (fun K hK => ?_)
            go_simp
            refine hK _ _ (fun h => absurd h (by decide)) ?_
            clear hK K
            try simp only [Act.put, List.setIfInBounds_toArray, List.set_cons_zero, List.set_cons_succ]
            refine sch_nil ?_
            go_wp2
            go_ret
            exact ⟨(by rw [NO.out]; first | done | rfl), hw0.drew.trans hb6⟩
          · rw [hlb] at hge
            have OKN := Lib.hid (show ∀ i, i < j + 1 + 1 → okAt es i = true by
              intro i hi
              rcases Nat.lt_or_ge i (j + 1) with h | h
              · exact HOK.out i h
              · have : i = j + 1 := by omega
                subst this
                unfold okAt
                rw [← hx, Nat.add_sub_cancel, ← hy, hlb, decide_eq_true (by omega)]; simp)
            clear hlb hx hy h0
            rw [← hke] at hlt cx e8 e9 OKN ⊢
            have hjl : j < es.length := by omega
            have hk0 : 0 < k := by omega
            have HKE := Lib.hid hke; clear hke e8'
            go_wp2
            refine wp_region_schG (fun W => W.cell? (ad.add k) = some (.float .f64 x) ∧ W.cell? (ad.add j) = some (.float .f64 y) ∧ ad.block < W.heap.size ∧ Tab W ∧ Within w W) 22 (.firm 0 (.firm 1 (.firm 2 (.firm 3 (.firm 4 (.firm 5 (.firm 6 (.firm 7 (.firm 8 (.firm 9 (.firm 10 (.firm 11 (.firm 12 (.firm 13 (.firm 15 (.firm 16 (.firm 17 (.firm 18 (.one 14 (.one 19 (.firm 20 (.firm 21 (.one 22 .nil))))))))))))))))))))))) (by kernel_rfl) (by kernel_rfl) ⟨cx, cy, hblk, hTr, HIN.out⟩ ?_
            rintro w0 ⟨cx, cy, hblk, hTw, hw0⟩
            try simp only [Act.put, List.setIfInBounds_toArray, List.set_cons_zero, List.set_cons_succ]
            apply sch_firm rfl rfl (by repeat (first | with_reducible exact Within.refl _ | with_reducible assumption | with_reducible refine Within.alloc ?_ _ | with_reducible refine Within.drew ?_ | with_reducible refine Within.drewN ?_ _ | with_reducible refine Within.setCell ?_ (by first | (simp; done) | (simp; omega)) _ | with_reducible refine Within.trans ?_ (by assumption)))
            · intro wq hq
              have hcq := hq.cells
              have gx := (hq.cell (p := ad.add k) (by rw [add_block]; exact hblk)).trans cx
              have gxb := Nat.lt_of_lt_of_le hblk hq.size
              have gy := (hq.cell (p := ad.add j) (by rw [add_block]; exact hblk)).trans cy
              clear hq
              go_simp
              first | rfl | (trace_state; fail)
            try simp only [Act.put, List.setIfInBounds_toArray, List.set_cons_zero, List.set_cons_succ]
            apply sch_firm rfl rfl (by repeat (first | with_reducible exact Within.refl _ | with_reducible assumption | with_reducible refine Within.alloc ?_ _ | with_reducible refine Within.drew ?_ | with_reducible refine Within.drewN ?_ _ | with_reducible refine Within.setCell ?_ (by first | (simp; done) | (simp; omega)) _ | with_reducible refine Within.trans ?_ (by assumption)))
            · intro wq hq
              have hcq := hq.cells
              have gx := (hq.cell (p := ad.add k) (by rw [add_block]; exact hblk)).trans cx
              have gxb := Nat.lt_of_lt_of_le hblk hq.size
              have gy := (hq.cell (p := ad.add j) (by rw [add_block]; exact hblk)).trans cy
              clear hq
              go_simp
              first | rfl | (trace_state; fail)
            try simp only [Act.put, List.setIfInBounds_toArray, List.set_cons_zero, List.set_cons_succ]
            apply sch_firm rfl rfl (by repeat (first | with_reducible exact Within.refl _ | with_reducible assumption | with_reducible refine Within.alloc ?_ _ | with_reducible refine Within.drew ?_ | with_reducible refine Within.drewN ?_ _ | with_reducible refine Within.setCell ?_ (by first | (simp; done) | (simp; omega)) _ | with_reducible refine Within.trans ?_ (by assumption)))
            · intro wq hq
              have hcq := hq.cells
              have gx := (hq.cell (p := ad.add k) (by rw [add_block]; exact hblk)).trans cx
              have gxb := Nat.lt_of_lt_of_le hblk hq.size
              have gy := (hq.cell (p := ad.add j) (by rw [add_block]; exact hblk)).trans cy
              clear hq
              go_simp
              first | rfl | (trace_state; fail)
            try simp only [Act.put, List.setIfInBounds_toArray, List.set_cons_zero, List.set_cons_succ]
            apply sch_firm rfl rfl (by repeat (first | with_reducible exact Within.refl _ | with_reducible assumption | with_reducible refine Within.alloc ?_ _ | with_reducible refine Within.drew ?_ | with_reducible refine Within.drewN ?_ _ | with_reducible refine Within.setCell ?_ (by first | (simp; done) | (simp; omega)) _ | with_reducible refine Within.trans ?_ (by assumption)))
            · intro wq hq
              have hcq := hq.cells
              have gx := (hq.cell (p := ad.add k) (by rw [add_block]; exact hblk)).trans cx
              have gxb := Nat.lt_of_lt_of_le hblk hq.size
              have gy := (hq.cell (p := ad.add j) (by rw [add_block]; exact hblk)).trans cy
              clear hq
              go_simp
              first | rfl | (trace_state; fail)
            try simp only [Act.put, List.setIfInBounds_toArray, List.set_cons_zero, List.set_cons_succ]
            apply sch_firm rfl rfl (by repeat (first | with_reducible exact Within.refl _ | with_reducible assumption | with_reducible refine Within.alloc ?_ _ | with_reducible refine Within.drew ?_ | with_reducible refine Within.drewN ?_ _ | with_reducible refine Within.setCell ?_ (by first | (simp; done) | (simp; omega)) _ | with_reducible refine Within.trans ?_ (by assumption)))
            · intro wq hq
              have hcq := hq.cells
              have gx := (hq.cell (p := ad.add k) (by rw [add_block]; exact hblk)).trans cx
              have gxb := Nat.lt_of_lt_of_le hblk hq.size
              have gy := (hq.cell (p := ad.add j) (by rw [add_block]; exact hblk)).trans cy
              clear hq
              go_simp
              first | rfl | (trace_state; fail)
            try simp only [Act.put, List.setIfInBounds_toArray, List.set_cons_zero, List.set_cons_succ]
            apply sch_firm rfl rfl (by repeat (first | with_reducible exact Within.refl _ | with_reducible assumption | with_reducible refine Within.alloc ?_ _ | with_reducible refine Within.drew ?_ | with_reducible refine Within.drewN ?_ _ | with_reducible refine Within.setCell ?_ (by first | (simp; done) | (simp; omega)) _ | with_reducible refine Within.trans ?_ (by assumption)))
            · intro wq hq
              have hcq := hq.cells
              have gx := (hq.cell (p := ad.add k) (by rw [add_block]; exact hblk)).trans cx
              have gxb := Nat.lt_of_lt_of_le hblk hq.size
              have gy := (hq.cell (p := ad.add j) (by rw [add_block]; exact hblk)).trans cy
              clear hq
              go_simp
              first | rfl | (trace_state; fail)
            try simp only [Act.put, List.setIfInBounds_toArray, List.set_cons_zero, List.set_cons_succ]
            apply sch_want rfl (by first | rfl | decide | (simp [Region.wanted, yielded]; done) | (simp [Region.wanted, yielded]; assumption)) (by repeat (first | with_reducible exact Within.refl _ | with_reducible assumption | with_reducible refine Within.alloc ?_ _ | with_reducible refine Within.drew ?_ | with_reducible refine Within.drewN ?_ _ | with_reducible refine Within.setCell ?_ (by first | (simp; done) | (simp; omega)) _ | with_reducible refine Within.trans ?_ (by assumption)))
            · intro wq hq
              have hcq := hq.cells
              have gx := (hq.cell (p := ad.add k) (by rw [add_block]; exact hblk)).trans cx
              have gxb := Nat.lt_of_lt_of_le hblk hq.size
              have gy := (hq.cell (p := ad.add j) (by rw [add_block]; exact hblk)).trans cy
              clear hq
              go_simp
              first | rfl | (trace_state; fail)
            try simp only [Act.put, List.setIfInBounds_toArray, List.set_cons_zero, List.set_cons_succ]
            apply sch_want rfl (by first | rfl | decide | (simp [Region.wanted, yielded]; done) | (simp [Region.wanted, yielded]; assumption)) (by repeat (first | with_reducible exact Within.refl _ | with_reducible assumption | with_reducible refine Within.alloc ?_ _ | with_reducible refine Within.drew ?_ | with_reducible refine Within.drewN ?_ _ | with_reducible refine Within.setCell ?_ (by first | (simp; done) | (simp; omega)) _ | with_reducible refine Within.trans ?_ (by assumption)))
            · intro wq hq
              have hcq := hq.cells
              have gx := (hq.cell (p := ad.add k) (by rw [add_block]; exact hblk)).trans cx
              have gxb := Nat.lt_of_lt_of_le hblk hq.size
              have gy := (hq.cell (p := ad.add j) (by rw [add_block]; exact hblk)).trans cy
              clear hq
              go_simp
              first | rfl | (trace_state; fail)
            try simp only [Act.put, List.setIfInBounds_toArray, List.set_cons_zero, List.set_cons_succ]
            apply sch_want rfl (by first | rfl | decide | (simp [Region.wanted, yielded]; done) | (simp [Region.wanted, yielded]; assumption)) (by repeat (first | with_reducible exact Within.refl _ | with_reducible assumption | with_reducible refine Within.alloc ?_ _ | with_reducible refine Within.drew ?_ | with_reducible refine Within.drewN ?_ _ | with_reducible refine Within.setCell ?_ (by first | (simp; done) | (simp; omega)) _ | with_reducible refine Within.trans ?_ (by assumption)))
            · intro wq hq
              have hcq := hq.cells
              have gx := (hq.cell (p := ad.add k) (by rw [add_block]; exact hblk)).trans cx
              have gxb := Nat.lt_of_lt_of_le hblk hq.size
              have gy := (hq.cell (p := ad.add j) (by rw [add_block]; exact hblk)).trans cy
              clear hq
              go_simp
              first | rfl | (trace_state; fail)
            try simp only [Act.put, List.setIfInBounds_toArray, List.set_cons_zero, List.set_cons_succ]
            apply sch_want rfl (by first | rfl | decide | (simp [Region.wanted, yielded]; done) | (simp [Region.wanted, yielded]; assumption)) (by repeat (first | with_reducible exact Within.refl _ | with_reducible assumption | with_reducible refine Within.alloc ?_ _ | with_reducible refine Within.drew ?_ | with_reducible refine Within.drewN ?_ _ | with_reducible refine Within.setCell ?_ (by first | (simp; done) | (simp; omega)) _ | with_reducible refine Within.trans ?_ (by assumption)))
            · intro wq hq
              have hcq := hq.cells
              have gx := (hq.cell (p := ad.add k) (by rw [add_block]; exact hblk)).trans cx
              have gxb := Nat.lt_of_lt_of_le hblk hq.size
              have gy := (hq.cell (p := ad.add j) (by rw [add_block]; exact hblk)).trans cy
              clear hq
              go_simp
              first | rfl | (trace_state; fail)
            try simp only [Act.put, List.setIfInBounds_toArray, List.set_cons_zero, List.set_cons_succ]
            apply sch_want rfl (by first | rfl | decide | (simp [Region.wanted, yielded]; done) | (simp [Region.wanted, yielded]; assumption)) (by repeat (first | with_reducible exact Within.refl _ | with_reducible assumption | with_reducible refine Within.alloc ?_ _ | with_reducible refine Within.drew ?_ | with_reducible refine Within.drewN ?_ _ | with_reducible refine Within.setCell ?_ (by first | (simp; done) | (simp; omega)) _ | with_reducible refine Within.trans ?_ (by assumption)))
            · intro wq hq
              have hcq := hq.cells
              have gx := (hq.cell (p := ad.add k) (by rw [add_block]; exact hblk)).trans cx
              have gxb := Nat.lt_of_lt_of_le hblk hq.size
              have gy := (hq.cell (p := ad.add j) (by rw [add_block]; exact hblk)).trans cy
              clear hq
              go_simp
              first | rfl | (trace_state; fail)
            try simp only [Act.put, List.setIfInBounds_toArray, List.set_cons_zero, List.set_cons_succ]
            apply sch_want rfl (by first | rfl | decide | (simp [Region.wanted, yielded]; done) | (simp [Region.wanted, yielded]; assumption)) (by repeat (first | with_reducible exact Within.refl _ | with_reducible assumption | with_reducible refine Within.alloc ?_ _ | with_reducible refine Within.drew ?_ | with_reducible refine Within.drewN ?_ _ | with_reducible refine Within.setCell ?_ (by first | (simp; done) | (simp; omega)) _ | with_reducible refine Within.trans ?_ (by assumption)))
            · intro wq hq
              have hcq := hq.cells
              have gx := (hq.cell (p := ad.add k) (by rw [add_block]; exact hblk)).trans cx
              have gxb := Nat.lt_of_lt_of_le hblk hq.size
              have gy := (hq.cell (p := ad.add j) (by rw [add_block]; exact hblk)).trans cy
              clear hq
              go_simp
              first | rfl | (trace_state; fail)
            try simp only [Act.put, List.setIfInBounds_toArray, List.set_cons_zero, List.set_cons_succ]
            apply sch_want rfl (by first | rfl | decide | (simp [Region.wanted, yielded]; done) | (simp [Region.wanted, yielded]; assumption)) (by repeat (first | with_reducible exact Within.refl _ | with_reducible assumption | with_reducible refine Within.alloc ?_ _ | with_reducible refine Within.drew ?_ | with_reducible refine Within.drewN ?_ _ | with_reducible refine Within.setCell ?_ (by first | (simp; done) | (simp; omega)) _ | with_reducible refine Within.trans ?_ (by assumption)))
            · intro wq hq
              have hcq := hq.cells
              have gx := (hq.cell (p := ad.add k) (by rw [add_block]; exact hblk)).trans cx
              have gxb := Nat.lt_of_lt_of_le hblk hq.size
              have gy := (hq.cell (p := ad.add j) (by rw [add_block]; exact hblk)).trans cy
              clear hq
              go_simp
              first | rfl | (trace_state; fail)
            try simp only [Act.put, List.setIfInBounds_toArray, List.set_cons_zero, List.set_cons_succ]
            apply sch_want rfl (by first | rfl | decide | (simp [Region.wanted, yielded]; done) | (simp [Region.wanted, yielded]; assumption)) (by repeat (first | with_reducible exact Within.refl _ | with_reducible assumption | with_reducible refine Within.alloc ?_ _ | with_reducible refine Within.drew ?_ | with_reducible refine Within.drewN ?_ _ | with_reducible refine Within.setCell ?_ (by first | (simp; done) | (simp; omega)) _ | with_reducible refine Within.trans ?_ (by assumption)))
            · intro wq hq
              have hcq := hq.cells
              have gx := (hq.cell (p := ad.add k) (by rw [add_block]; exact hblk)).trans cx
              have gxb := Nat.lt_of_lt_of_le hblk hq.size
              have gy := (hq.cell (p := ad.add j) (by rw [add_block]; exact hblk)).trans cy
              clear hq
              go_simp
              first | rfl | (trace_state; fail)
            try simp only [Act.put, List.setIfInBounds_toArray, List.set_cons_zero, List.set_cons_succ]
            apply sch_want rfl (by first | rfl | decide | (simp [Region.wanted, yielded]; done) | (simp [Region.wanted, yielded]; assumption)) (by repeat (first | with_reducible exact Within.refl _ | with_reducible assumption | with_reducible refine Within.alloc ?_ _ | with_reducible refine Within.drew ?_ | with_reducible refine Within.drewN ?_ _ | with_reducible refine Within.setCell ?_ (by first | (simp; done) | (simp; omega)) _ | with_reducible refine Within.trans ?_ (by assumption)))
            · intro wq hq
              have hcq := hq.cells
              have gx := (hq.cell (p := ad.add k) (by rw [add_block]; exact hblk)).trans cx
              have gxb := Nat.lt_of_lt_of_le hblk hq.size
              have gy := (hq.cell (p := ad.add j) (by rw [add_block]; exact hblk)).trans cy
              clear hq
              go_simp
              first | rfl | (trace_state; fail)
            try simp only [Act.put, List.setIfInBounds_toArray, List.set_cons_zero, List.set_cons_succ]
            apply sch_want rfl (by first | rfl | decide | (simp [Region.wanted, yielded]; done) | (simp [Region.wanted, yielded]; assumption)) (by repeat (first | with_reducible exact Within.refl _ | with_reducible assumption | with_reducible refine Within.alloc ?_ _ | with_reducible refine Within.drew ?_ | with_reducible refine Within.drewN ?_ _ | with_reducible refine Within.setCell ?_ (by first | (simp; done) | (simp; omega)) _ | with_reducible refine Within.trans ?_ (by assumption)))
            · intro wq hq
              have hcq := hq.cells
              have gx := (hq.cell (p := ad.add k) (by rw [add_block]; exact hblk)).trans cx
              have gxb := Nat.lt_of_lt_of_le hblk hq.size
              have gy := (hq.cell (p := ad.add j) (by rw [add_block]; exact hblk)).trans cy
              clear hq
              go_simp
              first | rfl | (trace_state; fail)
            try simp only [Act.put, List.setIfInBounds_toArray, List.set_cons_zero, List.set_cons_succ]
            apply sch_want rfl (by first | rfl | decide | (simp [Region.wanted, yielded]; done) | (simp [Region.wanted, yielded]; assumption)) (by repeat (first | with_reducible exact Within.refl _ | with_reducible assumption | with_reducible refine Within.alloc ?_ _ | with_reducible refine Within.drew ?_ | with_reducible refine Within.drewN ?_ _ | with_reducible refine Within.setCell ?_ (by first | (simp; done) | (simp; omega)) _ | with_reducible refine Within.trans ?_ (by assumption)))
            · intro wq hq
              have hcq := hq.cells
              have gx := (hq.cell (p := ad.add k) (by rw [add_block]; exact hblk)).trans cx
              have gxb := Nat.lt_of_lt_of_le hblk hq.size
              have gy := (hq.cell (p := ad.add j) (by rw [add_block]; exact hblk)).trans cy
              clear hq
              go_simp
              first | rfl | (trace_state; fail)
            try simp only [Act.put, List.setIfInBounds_toArray, List.set_cons_zero, List.set_cons_succ]
            apply sch_want rfl (by first | rfl | decide | (simp [Region.wanted, yielded]; done) | (simp [Region.wanted, yielded]; assumption)) (by repeat (first | with_reducible exact Within.refl _ | with_reducible assumption | with_reducible refine Within.alloc ?_ _ | with_reducible refine Within.drew ?_ | with_reducible refine Within.drewN ?_ _ | with_reducible refine Within.setCell ?_ (by first | (simp; done) | (simp; omega)) _ | with_reducible refine Within.trans ?_ (by assumption)))
            · intro wq hq
              have hcq := hq.cells
              have gx := (hq.cell (p := ad.add k) (by rw [add_block]; exact hblk)).trans cx
              have gxb := Nat.lt_of_lt_of_le hblk hq.size
              have gy := (hq.cell (p := ad.add j) (by rw [add_block]; exact hblk)).trans cy
              clear hq
              go_simp
              first | rfl | (trace_state; fail)
            try simp only [Act.put, List.setIfInBounds_toArray, List.set_cons_zero, List.set_cons_succ]
            refine sch_one_want rfl (by first | rfl | decide | (simp [Region.wanted, yielded]; done) | (simp [Region.wanted, yielded]; assumption)) (fun K hK => ?_)
            go_simp
            refine (CA.out _).mono ?_; rintro e5 w5 ⟨rfl, rfl⟩
            refine hK _ _ (fun _ => (by repeat (first | with_reducible exact Within.refl _ | with_reducible assumption | with_reducible refine Within.alloc ?_ _ | with_reducible refine Within.drew ?_ | with_reducible refine Within.drewN ?_ _ | with_reducible refine Within.setCell ?_ (by first | (simp; done) | (simp; omega)) _ | with_reducible refine Within.trans ?_ (by assumption)))) ?_
            clear hK K
            try simp only [Act.put, List.setIfInBounds_toArray, List.set_cons_zero, List.set_cons_succ]
            refine sch_one_want rfl (by first | rfl | decide | (simp [Region.wanted, yielded]; done) | (simp [Region.wanted, yielded]; assumption)) (fun K hK => ?_)
            go_simp
            refine (CL.out _ (hTw.of (by repeat (first | with_reducible exact Within.refl _ | with_reducible assumption | with_reducible refine Within.drew ?_ | with_reducible refine Within.trans ?_ (by assumption))))).mono ?_; rintro e6 w6 ⟨rfl, hb6⟩
            refine hK _ _ (fun _ => (by repeat (first | with_reducible exact Within.refl _ | with_reducible assumption | with_reducible refine Within.alloc ?_ _ | with_reducible refine Within.drew ?_ | with_reducible refine Within.drewN ?_ _ | with_reducible refine Within.setCell ?_ (by first | (simp; done) | (simp; omega)) _ | with_reducible refine Within.trans ?_ (by assumption)))) ?_
            clear hK K
            try simp only [Act.put, List.setIfInBounds_toArray, List.set_cons_zero, List.set_cons_succ]
            apply sch_want rfl (by first | rfl | decide | (simp [Region.wanted, yielded]; done) | (simp [Region.wanted, yielded]; assumption)) (by repeat (first | with_reducible exact Within.refl _ | with_reducible assumption | with_reducible refine Within.alloc ?_ _ | with_reducible refine Within.drew ?_ | with_reducible refine Within.drewN ?_ _ | with_reducible refine Within.setCell ?_ (by first | (simp; done) | (simp; omega)) _ | with_reducible refine Within.trans ?_ (by assumption)))
            · intro wq hq
              have hcq := hq.cells
              have gx := (hq.cell (p := ad.add k) (by rw [add_block]; exact hblk)).trans cx
              have gxb := Nat.lt_of_lt_of_le hblk hq.size
              have gy := (hq.cell (p := ad.add j) (by rw [add_block]; exact hblk)).trans cy
              clear hq
              go_simp
              first | rfl | (trace_state; fail)
            try simp only [Act.put, List.setIfInBounds_toArray, List.set_cons_zero, List.set_cons_succ]
            apply sch_want rfl (by first | rfl | decide | (simp [Region.wanted, yielded]; done) | (simp [Region.wanted, yielded]; assumption)) (by repeat (first | with_reducible exact Within.refl _ | with_reducible assumption | with_reducible refine Within.alloc ?_ _ | with_reducible refine Within.drew ?_ | with_reducible refine Within.drewN ?_ _ | with_reducible refine Within.setCell ?_ (by first | (simp; done) | (simp; omega)) _ | with_reducible refine Within.trans ?_ (by assumption)))
            · intro wq hq
              have hcq := hq.cells
              have gx := (hq.cell (p := ad.add k) (by rw [add_block]; exact hblk)).trans cx
              have gxb := Nat.lt_of_lt_of_le hblk hq.size
              have gy := (hq.cell (p := ad.add j) (by rw [add_block]; exact hblk)).trans cy
              clear hq
              go_simp
              first | rfl | (trace_state; fail)
            try simp only [Act.put, List.setIfInBounds_toArray, List.set_cons_zero, List.set_cons_succ]
            refine sch_one rfl rfl (fun K hK => ?_)
            go_simp
            refine hK _ _ (fun h => absurd h (by decide)) ?_
            clear hK K
            try simp only [Act.put, List.setIfInBounds_toArray, List.set_cons_zero, List.set_cons_succ]
            refine sch_nil ?_
            have hw4 : Within w w6 := hw0.drew.trans hb6
            clear hw0
            go_wp2
            go_roundw
            case rel => exact ⟨k + 1, hlt, by go_num, OKN.out, hw4⟩
            case measure => simp [intOf]; omega
    · obtain rfl : k = es.length := by omega
      have YES := Lib.hid (isB_yes H64.out HF.out HOK.out)
      go_wp2
      go_ret
      exact ⟨(by rw [YES.out]; first | done | rfl), hin⟩
theorem eis_any (A : Option Addr) (c : Nat) (es : List Nat) (hw : Words64 es) (hl : es.length ≤ 1152921504606846976) (w : World) (hT : Tab w) (hr : SlAt w A (f64v es)) : Calls Tryz.prog 17 #[.slice A es.length c] w fun e w' => e = .returned (.bool (isB es)) ∧ Within w w' := by
  by_cases h64 : es.length ≤ 64
  · cases hf : es.all finD
    · rw [isB_fin hf]; exact eis_fin A c es hw hl h64 hf w hT hr
    · exact eis_main A c es hw hl h64 hf w hT hr
  · rw [isB_long (by omega)]; exact eis_long A c es hw hl (by omega) w hT hr
end Go.Proofs.YtjmaggfddinbkaaGreatDoor
end

section
namespace Go.Proofs.YtjmaggfddinbkaaGreatDoor
open Go.RowKit
def chkE (l : List Nat) : Int := if l.all finD = false then 4 else if 64 < l.length then 2 else if isB l = false then 40 else 0
theorem chkE_zero {l : List Nat} : chkE l = 0 ↔ isB l = true := by
  unfold chkE
  constructor
  · intro h
    split at h
    · cases h
    · split at h
      · cases h
      · split at h
        · cases h
        · rename_i h3; simpa using h3
  · intro h
    have h1 : l.all finD = true := by
      unfold isB at h; simp only [Bool.and_eq_true] at h; exact h.1.2
    have h2 : l.length ≤ 64 := by
      unfold isB at h; simp only [Bool.and_eq_true, decide_eq_true_eq] at h; exact h.1.1
    rw [h1, if_neg (by decide), if_neg (by omega), h, if_neg (by decide)]
theorem chk_len {l : List Nat} (h : chkE l = 0) : l.length ≤ 64 := by
  have := chkE_zero.1 h
  unfold isB at this; simp only [Bool.and_eq_true, decide_eq_true_eq] at this; exact this.1.1
def growL (es : List Nat) (b : Nat) : List (Option Nat) := if chkE es = 0 then (if finW b then (growSt (es.map fv) (fv b)).out else []) else []
def growEr (es : List Nat) (b : Nat) : Int := if chkE es = 0 then (if finW b then (growSt (es.map fv) (fv b)).err else 4) else chkE es
theorem ResF.none_ {W w : World} (er : Int) (h : Within W w) : ResF W [] er (.returned (.tuple #[.slice none 0 0, .int .i64 er])) w := ⟨_, [], rfl, OwnF.nil_ _ _, (fun x hx => by cases hx), rfl, h⟩
set_option maxRecDepth 100000 in
set_option maxHeartbeats 600000 in
theorem echeck_fin (A : Option Addr) (c : Nat) (es : List Nat) (hw : Words64 es) (hl : es.length ≤ 1152921504606846976) (hf : es.all finD = false) (w : World) (hT : Tab w) (hr : SlAt w A (f64v es)) : Calls Tryz.prog 65 #[.slice A es.length c] w fun e w' => e = .returned (.int .i64 (4)) ∧ Within w w' := by
  have CF := Lib.hid (Finite_any A c es hw (by omega) w hr)
  rw [hf] at CF
  clear hw hr hT hf
  go_enter Tryz.func65, Tryz.ntmps65
  go_wp2_with fail
  refine CF.out.mono ?_; rintro e1 w1 ⟨rfl, hb1⟩
  go_wp2
  go_ret
  exact ⟨rfl, hb1⟩
set_option maxRecDepth 100000 in
set_option maxHeartbeats 600000 in
theorem echeck_long (A : Option Addr) (c : Nat) (es : List Nat) (hw : Words64 es) (hl : es.length ≤ 1152921504606846976) (hf : es.all finD = true) (h64 : 64 < es.length) (w : World) (hT : Tab w) (hr : SlAt w A (f64v es)) : Calls Tryz.prog 65 #[.slice A es.length c] w fun e w' => e = .returned (.int .i64 (2)) ∧ Within w w' := by
  have CF := Lib.hid (Finite_any A c es hw (by omega) w hr)
  rw [hf] at CF
  have d : decide ((es.length : Int) > 64) = true := decide_eq_true (by omega)
  clear hw hr hT hf
  go_enter Tryz.func65, Tryz.ntmps65
  go_wp2_with fail
  refine CF.out.mono ?_; rintro e1 w1 ⟨rfl, hb1⟩
  go_wp2
  go_ret
  exact ⟨rfl, hb1⟩
set_option maxRecDepth 100000 in
set_option maxHeartbeats 600000 in
theorem echeck_is (A : Option Addr) (c : Nat) (es : List Nat) (hw : Words64 es) (hl : es.length ≤ 1152921504606846976) (hf : es.all finD = true) (h64 : es.length ≤ 64) (v : Int) (b : Bool) (hb : isB es = b) (hv : (if b then 0 else 40) = v) (w : World) (hT : Tab w) (hr : SlAt w A (f64v es)) : Calls Tryz.prog 65 #[.slice A es.length c] w fun e w' => e = .returned (.int .i64 (v)) ∧ Within w w' := by
  have CF := Lib.hid (Finite_any A c es hw (by omega) w hr)
  rw [hf] at CF
  have d : decide ((es.length : Int) > 64) = false := decide_eq_false (by omega)
  have CI := Lib.hid (fun w hT hr => eis_any A c es hw (by omega) w hT hr)
  rw [hb] at CI
  have HT := Lib.hid hT; have HR := Lib.hid hr; clear hw hr hT hf hb
  cases b
  · obtain rfl : v = 40 := by simpa using hv.symm
    clear hv
    go_enter Tryz.func65, Tryz.ntmps65
    go_wp2_with fail
    refine CF.out.mono ?_; rintro e1 w1 ⟨rfl, hb1⟩
    go_wp2_with fail
    refine (CI.out _ (HT.out.of hb1) (HR.out.of hb1)).mono ?_; rintro e2 w2 ⟨rfl, hb2⟩
    go_wp2
    go_ret
    exact ⟨rfl, hb1.trans hb2⟩
  · obtain rfl : v = 0 := by simpa using hv.symm
    clear hv
    go_enter Tryz.func65, Tryz.ntmps65
    go_wp2_with fail
    refine CF.out.mono ?_; rintro e1 w1 ⟨rfl, hb1⟩
    go_wp2_with fail
    refine (CI.out _ (HT.out.of hb1) (HR.out.of hb1)).mono ?_; rintro e2 w2 ⟨rfl, hb2⟩
    go_wp2
    go_ret
    exact ⟨rfl, hb1.trans hb2⟩
theorem echeck_any (A : Option Addr) (c : Nat) (es : List Nat) (hw : Words64 es) (hl : es.length ≤ 1152921504606846976) (w : World) (hT : Tab w) (hr : SlAt w A (f64v es)) : Calls Tryz.prog 65 #[.slice A es.length c] w fun e w' => e = .returned (.int .i64 (chkE es)) ∧ Within w w' := by
  unfold chkE
  cases hf : es.all finD
  · rw [if_pos rfl]; exact echeck_fin A c es hw hl hf w hT hr
  · rw [if_neg (by decide)]
    by_cases h64 : 64 < es.length
    · rw [if_pos h64]; exact echeck_long A c es hw hl hf h64 w hT hr
    · rw [if_neg h64]
      refine echeck_is A c es hw hl hf (by omega) _ (isB es) rfl ?_ w hT hr
      cases isB es <;> rfl
set_option maxRecDepth 100000 in
set_option maxHeartbeats 600000 in
theorem eGrow_any (A : Option Addr) (c : Nat) (es : List Nat) (hw : Words64 es) (hl : es.length ≤ 1152921504606846976) (b : Nat) (hb : b < 18446744073709551616) (w : World) (hT : Tab w) (hr : SlAt w A (f64v es)) : Calls Tryz.prog 13 #[.slice A es.length c, .float .f64 b] w (ResF w (growL es b) (growEr es b)) := by
  have CK := Lib.hid (echeck_any A c es hw hl w hT hr)
  have HR := Lib.hid hr; clear hr hT
  unfold growL growEr
  by_cases h0 : chkE es = 0
  · rw [if_pos h0, if_pos h0]
    have CG := Lib.hid (fun w hr => egrow_any A c es b hw (Nat.le_trans (chk_len h0) (by decide)) hb w hr)
    rw [h0] at CK
    clear h0 hw hb
    have CN := Lib.hid (fun w => efinite_any b w)
    cases hf : finW b
    · rw [if_neg (by decide), if_neg (by decide)]
      rw [hf] at CN
      clear hf
      go_enter Tryz.func13, Tryz.ntmps13
      go_wp2_with fail
      refine CK.out.mono ?_; rintro e1 w1 ⟨rfl, hb1⟩
      go_wp2_with fail
      refine (CN.out _).mono ?_; rintro e2 w2 ⟨rfl, hb2⟩
      go_wp2
      go_ret2
      exact ResF.none_ 4 (hb1.trans hb2)
    · rw [if_pos rfl, if_pos rfl]
      rw [hf] at CN
      clear hf
      obtain ⟨go, hgo⟩ : ∃ go, go = (growSt (es.map fv) (fv b)).out := ⟨_, rfl⟩
      obtain ⟨ge, hge⟩ : ∃ ge, ge = (growSt (es.map fv) (fv b)).err := ⟨_, rfl⟩
      rw [← hgo, ← hge] at CG ⊢
      clear hgo hge
      go_enter Tryz.func13, Tryz.ntmps13
      go_wp2_with fail
      refine CK.out.mono ?_; rintro e1 w1 ⟨rfl, hb1⟩
      go_wp2_with fail
      refine (CN.out _).mono ?_; rintro e2 w2 ⟨rfl, hb2⟩
      go_wp2_with fail
      refine (CG.out _ (HR.out.of (hb1.trans hb2))).mono ?_; rintro e3 w3 ⟨sv, ls, rfl, ho, hws, hm, hb3⟩
      go_wp2
      go_ret2
      exact ⟨sv, ls, rfl, OwnF.less ho (hb1.trans hb2).size, hws, hm, (hb1.trans hb2).trans hb3⟩
  · clear hw hb
    rw [if_neg h0, if_neg h0]
    obtain ⟨v, hv⟩ : ∃ v, v = chkE es := ⟨_, rfl⟩
    rw [← hv] at CK h0 ⊢
    have hne : (v != 0) = true := by simpa using h0
    clear hv h0
    go_enter Tryz.func13, Tryz.ntmps13
    go_wp2_with fail
    refine CK.out.mono ?_; rintro e1 w1 ⟨rfl, hb1⟩
    go_wp2
    go_ret2
    exact ResF.none_ v hb1
end Go.Proofs.YtjmaggfddinbkaaGreatDoor
end

section
namespace Go.Proofs.YtjmaggfddinbkaaGreatDoor
open Go.RowKit
theorem fv_some {x v : Nat} (h : fv x = some v) : x = v := by
  unfold fv at h
  split at h
  · cases h
  · injection h
theorem map_fv_two {ls : List Nat} {a b : Nat} (h : ls.map fv = [some a, some b]) : ls = [a, b] := by
  rcases ls with _ | ⟨x, _ | ⟨y, _ | ⟨z, l⟩⟩⟩
  · simp at h
  · simp at h
  · simp only [List.map_cons, List.map_nil, List.cons.injEq, and_true] at h
    rw [fv_some h.1, fv_some h.2]
  · simp at h
set_option maxRecDepth 100000 in
set_option maxHeartbeats 600000 in
theorem ef_any (a : Nat) (w : World) : Calls Tryz.prog 14 #[.int .u64 a] w fun e w' => e = .returned (.float .f64 a) ∧ w = w' := by
  go_enter Tryz.func14, Tryz.ntmps14
  go_wp2
  go_ret
  exact ⟨rfl, rfl⟩
theorem t_twoS : twoS (fv 4845873199050653696) (fv 4607182418800017408) = some 4845873199050653696 := by decide +kernel
theorem t_twoL : twoL (fv 4845873199050653696) (fv 4607182418800017408) = some 4607182418800017408 := by decide +kernel
theorem t_halH : halH (fv 4728779608772575232) = some 4728779608739020800 := by decide +kernel
theorem t_halL : halL (fv 4728779608772575232) = some 4607182418800017408 := by decide +kernel
theorem t_proP : proP (fv 4728779608772575232) (fv 4728779608772575232) = some 4850376798745133056 := by decide +kernel
theorem t_proE : proE (fv 4728779608772575232) (fv 4728779608772575232) = some 4607182418800017408 := by decide +kernel
theorem t_growL : growL [4607182418800017408] 4877398396442247168 = [some 4607182418800017408, some 4877398396442247168] := by decide +kernel
theorem t_growE : growEr [4607182418800017408] 4877398396442247168 = 0 := by decide +kernel
theorem t_is : isB [4607182418800017408, 4877398396442247168] = true := by decide +kernel
theorem t_det : P64.detI 4607182418800017408 4611686018427387904 4613937818241073152 4616189618054758400 = -1 := by decide +kernel
theorem t_fin : [4607182418800017408, 4611686018427387904, 4613937818241073152, 4616189618054758400].all finD = true := by decide +kernel
set_option maxRecDepth 100000 in
set_option maxHeartbeats 1600000 in
theorem awake_true (w : World) (hT : Tab w) : Calls Tryz.prog 21 #[] w fun e w' => e = .returned (.bool true) ∧ Within w w' := by
  have C1 := Lib.hid (fun w => Etwo_any 4845873199050653696 4607182418800017408 (by decide) (by decide) w)
  have C2 := Lib.hid (fun w => Esplit_any 4728779608772575232 (by decide) w)
  have C3 := Lib.hid (fun w => Eprod_any 4728779608772575232 4728779608772575232 (by decide) (by decide) w)
  have C4 := Lib.hid (fun A w hT hr => eGrow_any A 1 [4607182418800017408] (by intro x hx; simp at hx; omega) (by decide) 4877398396442247168 (by decide) w hT hr)
  have C5 := Lib.hid (fun w hT => P64.Edet 4607182418800017408 4611686018427387904 4613937818241073152 4616189618054758400 (by decide) (by decide) (by decide) (by decide) w hT)
  have C6 := Lib.hid (fun A c w hT hr => eis_any A c [4607182418800017408, 4877398396442247168] (by intro x hx; simp at hx; omega) (by decide) w hT hr)
  rw [t_twoS, t_twoL] at C1
  rw [t_halH, t_halL] at C2
  rw [t_proP, t_proE] at C3
  rw [t_growL, t_growE] at C4
  rw [t_det, t_fin, if_pos rfl, if_pos rfl] at C5
  rw [t_is] at C6
  have HT := Lib.hid hT; clear hT
  have c47_47 : (FloatKind.f64.format.order 4845873199050653696 4845873199050653696 == some .eq) = true := by decide +kernel
  have c72_72 : (FloatKind.f64.format.order 4607182418800017408 4607182418800017408 == some .eq) = true := by decide +kernel
  have c19_19 : (FloatKind.f64.format.order 4728779608739020800 4728779608739020800 == some .eq) = true := by decide +kernel
  have c59_59 : (FloatKind.f64.format.order 4850376798745133056 4850376798745133056 == some .eq) = true := by decide +kernel
  go_enter Tryz.func21, Tryz.ntmps21
  go_wp2_with fail
  refine (C1.out _).mono ?_; rintro e1 w1 ⟨s1, l1, rfl, _, _, k1, k2, hb1⟩
  obtain rfl := fv_some k1
  obtain rfl := fv_some k2
  clear k1 k2
  rw [show canonD 4845873199050653696 = 4845873199050653696 by decide, show canonD 4607182418800017408 = 4607182418800017408 by decide]
  go_wp2_with fail
  refine (C2.out _).mono ?_; rintro e2 w2 ⟨s2, l2, rfl, _, _, k1, k2, hb2⟩
  obtain rfl := fv_some k1
  obtain rfl := fv_some k2
  clear k1 k2
  rw [show canonD 4728779608739020800 = 4728779608739020800 by decide, show canonD 4607182418800017408 = 4607182418800017408 by decide]
  go_wp2_with fail
  refine (C3.out _).mono ?_; rintro e3 w3 ⟨s3, l3, rfl, _, _, k1, k2, hb3⟩
  obtain rfl := fv_some k1
  obtain rfl := fv_some k2
  clear k1 k2
  rw [show canonD 4850376798745133056 = 4850376798745133056 by decide, show canonD 4607182418800017408 = 4607182418800017408 by decide]
  have h3 := (hb1.trans hb2).trans hb3
  clear hb1 hb2 hb3
  have HS := Lib.hid (P64.slAt_made w3 [4607182418800017408] _ 29 rfl)
  go_wp2_with fail
  refine (C4.out _ _ (HT.out.of (h3.alloc _)) HS.out).mono ?_; rintro e4 w4 ⟨sv, ls, rfl, ho, _, hm, hb4⟩
  obtain rfl := map_fv_two hm
  clear hm
  have h4 := (h3.alloc _).trans hb4
  clear hb4 h3
  obtain ⟨A, c, rfl, hc, hs, _⟩ := ho.form
  have HSL := Lib.hid hs
  clear ho
  go_wp2_with fail
  refine (C5.out _ (HT.out.of h4)).mono ?_; rintro e5 w5 ⟨rfl, hb5⟩
  have h5 := h4.trans hb5
  have HS5 := Lib.hid (hs.of hb5)
  clear hs HSL
  obtain ⟨ad, rfl, hblk, hcell⟩ := HS5.out.at (k := 0) (by decide)
  have hc0 : w5.cell? ad = some (.float .f64 4607182418800017408) := hcell
  clear hcell
  have C6' := Lib.hid (fun w hT hr => C6.out (some ad) c w hT hr)
  clear C6
  go_wp2_with fail
  refine (C6'.out _ (HT.out.of h5) HS5.out).mono ?_; rintro e6 w6 ⟨rfl, hb6⟩
  go_wp2
  go_ret
  exact ⟨rfl, h5.trans hb6⟩
end Go.Proofs.YtjmaggfddinbkaaGreatDoor
end

section
namespace Go.Proofs.YtjmaggfddinbkaaGreatDoor
open Go.RowKit
def ExR (W : World) (n E : Int) (e : Ending) (w' : World) : Prop := ∃ h, e = .returned (.agg #[.pointer (some ⟨h, 0, none⟩), .int .i64 E]) ∧ IntB w' h n ∧ W.heap.size ≤ h ∧ Within W w'
theorem IntB.setEx0 {w : World} {g n : Nat} {v : Int} {t : TypeId} {cs : Array Value} (h : IntB w g v) (hn : w.heap[n]? = some (.cells cs t (0, 0))) (ht : t ≠ 133) (hne : g ≠ n) {w' : World} (hb : ∀ k, k ≠ n → w'.heap[k]? = w.heap[k]?) : IntB w' g v := by
  obtain ⟨A, c, hb', hc, hr⟩ := h
  refine ⟨A, c, (hb _ hne).trans hb', hc, hr.of_block fun k m f hk => hb _ ?_⟩
  rintro rfl
  obtain ⟨cs', h1, _⟩ := hk
  rw [hn] at h1
  injection h1 with h1
  injection h1 with _ h2
  exact ht h2
theorem ex_set {w : World} {b h : Nat} {n E : Int} {x y : Value} (hb : w.heap[b]? = some (.cells #[x, y] 53 (0, 0))) (hI : IntB w h n) (hne : h ≠ b) :
    ((w.setCell ⟨b, 0, none⟩ (.pointer (some ⟨h, 0, none⟩))).setCell ⟨b, 1, none⟩ (.int .i64 E)).cell? ⟨b, 0, none⟩ = some (.pointer (some ⟨h, 0, none⟩)) ∧ ((w.setCell ⟨b, 0, none⟩ (.pointer (some ⟨h, 0, none⟩))).setCell ⟨b, 1, none⟩ (.int .i64 E)).cell? ⟨b, 1, none⟩ = some (.int .i64 E) ∧ IntB ((w.setCell ⟨b, 0, none⟩ (.pointer (some ⟨h, 0, none⟩))).setCell ⟨b, 1, none⟩ (.int .i64 E)) h n := by
  have h1 : ((w.setCell ⟨b, 0, none⟩ (.pointer (some ⟨h, 0, none⟩))).setCell ⟨b, 1, none⟩ (.int .i64 E)).heap[b]? = some (.cells #[.pointer (some ⟨h, 0, none⟩), .int .i64 E] 53 (0, 0)) := by
    simp [World.setCell, Array.getElem?_modify, hb]
  refine ⟨by unfold World.cell?; rw [h1]; rfl, by unfold World.cell?; rw [h1]; rfl, hI.setEx0 hb (by decide) hne (fun k hk => ?_)⟩
  rw [Below.heap_setCell _ _ _ _ hk, Below.heap_setCell _ _ _ _ hk]
theorem ex_cells {w : World} {b : Nat} (hb : w.heap[b]? = some (.cells #[.pointer none, .int .i64 0] 53 (0, 0))) : w.cell? ⟨b, 0, none⟩ = some (.pointer none) ∧ w.cell? ⟨b, 1, none⟩ = some (.int .i64 0) ∧ ∀ o, w.frozen? ⟨b, o, none⟩ = false :=
  ⟨by unfold World.cell?; rw [hb]; rfl, by unfold World.cell?; rw [hb]; rfl, fun o => by simp [World.frozen?, hb]⟩
set_option maxRecDepth 100000 in
set_option maxHeartbeats 600000 in
theorem Xneg (n E : Int) (g : Nat) (hl : (dg n.natAbs).length ≤ 1000) (w : World) (hI : IntB w g n) : Calls Tryz.prog 50 #[.agg #[.pointer (some ⟨g, 0, none⟩), .int .i64 E]] w (ExR w (-n) E) := by
  have HL := Lib.hid hl; clear hl
  go_enter Tryz.func50, Tryz.ntmps50
  go_wp2
  refine wp_region_schG (fun W => W.cell? ⟨w.heap.size, 0, none⟩ = some (.pointer (some ⟨g, 0, none⟩)) ∧ W.cell? ⟨w.heap.size, 1, none⟩ = some (.int .i64 E) ∧ W.heap[w.heap.size + 1]? = some (.cells #[.pointer none, .int .i64 0] 53 (0, 0)) ∧ IntB W g n ∧ w.heap.size < W.heap.size ∧ w.heap.size + 1 < W.heap.size ∧ Within w W) 7 (.firm 1 (.firm 2 (.firm 4 (.firm 5 (.one 0 (.one 3 (.firm 6 (.one 7 .nil)))))))) (by kernel_rfl) (by kernel_rfl) ⟨by go_simp, by go_simp, (by have := heap_alloc_new (w.alloc (.cells #[.pointer (some ⟨g, 0, none⟩), .int .i64 E] 53)) (.cells #[.pointer none, .int .i64 0] 53); simpa using this), (IntB.of hI (by repeat (first | with_reducible exact Within.refl _ | with_reducible assumption | with_reducible refine Within.alloc ?_ _ | with_reducible refine Within.drew ?_ | with_reducible refine Within.drewN ?_ _ | with_reducible refine Within.setCell ?_ (by first | (simp; done) | (simp; omega)) _ | with_reducible refine Within.trans ?_ (by assumption)))), by first | (simp; done) | (simp; omega), by first | (simp; done) | (simp; omega), (by repeat (first | with_reducible exact Within.refl _ | with_reducible assumption | with_reducible refine Within.alloc ?_ _ | with_reducible refine Within.drew ?_ | with_reducible refine Within.drewN ?_ _ | with_reducible refine Within.setCell ?_ (by first | (simp; done) | (simp; omega)) _ | with_reducible refine Within.trans ?_ (by assumption)))⟩ ?_
  rintro w0 ⟨c0, c1, hz, hI, l0, l1, hw0⟩
  try simp only [Act.put, List.setIfInBounds_toArray, List.set_cons_zero, List.set_cons_succ]
  apply sch_firm rfl rfl (by repeat (first | with_reducible exact Within.refl _ | with_reducible assumption | with_reducible refine Within.alloc ?_ _ | with_reducible refine Within.drew ?_ | with_reducible refine Within.drewN ?_ _ | with_reducible refine Within.setCell ?_ (by first | (simp; done) | (simp; omega)) _ | with_reducible refine Within.trans ?_ (by assumption)))
  · intro wq hq
    have hcq := hq.cells
    clear hq
    go_simp
    first | rfl | (trace_state; fail)
  try simp only [Act.put, List.setIfInBounds_toArray, List.set_cons_zero, List.set_cons_succ]
  apply sch_firm rfl rfl (by repeat (first | with_reducible exact Within.refl _ | with_reducible assumption | with_reducible refine Within.alloc ?_ _ | with_reducible refine Within.drew ?_ | with_reducible refine Within.drewN ?_ _ | with_reducible refine Within.setCell ?_ (by first | (simp; done) | (simp; omega)) _ | with_reducible refine Within.trans ?_ (by assumption)))
  · intro wq hq
    have hcq := hq.cells
    clear hq
    go_simp
    first | rfl | (trace_state; fail)
  try simp only [Act.put, List.setIfInBounds_toArray, List.set_cons_zero, List.set_cons_succ]
  apply sch_firm rfl rfl (by repeat (first | with_reducible exact Within.refl _ | with_reducible assumption | with_reducible refine Within.alloc ?_ _ | with_reducible refine Within.drew ?_ | with_reducible refine Within.drewN ?_ _ | with_reducible refine Within.setCell ?_ (by first | (simp; done) | (simp; omega)) _ | with_reducible refine Within.trans ?_ (by assumption)))
  · intro wq hq
    have hcq := hq.cells
    clear hq
    go_simp
    first | rfl | (trace_state; fail)
  try simp only [Act.put, List.setIfInBounds_toArray, List.set_cons_zero, List.set_cons_succ]
  apply sch_firm rfl rfl (by repeat (first | with_reducible exact Within.refl _ | with_reducible assumption | with_reducible refine Within.alloc ?_ _ | with_reducible refine Within.drew ?_ | with_reducible refine Within.drewN ?_ _ | with_reducible refine Within.setCell ?_ (by first | (simp; done) | (simp; omega)) _ | with_reducible refine Within.trans ?_ (by assumption)))
  · intro wq hq
    have hcq := hq.cells
    clear hq
    go_simp
    first | rfl | (trace_state; fail)
  try simp only [Act.put, List.setIfInBounds_toArray, List.set_cons_zero, List.set_cons_succ]
  refine sch_one rfl rfl (fun K hK => ?_)
  go_simp
  refine hK _ _ (fun _ => (by repeat (first | with_reducible exact Within.refl _ | with_reducible assumption | with_reducible refine Within.alloc ?_ _ | with_reducible refine Within.drew ?_ | with_reducible refine Within.drewN ?_ _ | with_reducible refine Within.setCell ?_ (by first | (simp; done) | (simp; omega)) _ | with_reducible refine Within.trans ?_ (by assumption)))) ?_
  clear hK K
  try simp only [Act.put, List.setIfInBounds_toArray, List.set_cons_zero, List.set_cons_succ]
  refine sch_one rfl rfl (fun K hK => ?_)
  go_simp
  refine (Bneg _ g n (Nat.le_trans HL.out (by decide)) _ (by exact (IntB.made w0).ty) (IntB.of hI (by repeat (first | with_reducible exact Within.refl _ | with_reducible assumption | with_reducible refine Within.alloc ?_ _ | with_reducible refine Within.drew ?_ | with_reducible refine Within.drewN ?_ _ | with_reducible refine Within.setCell ?_ (by first | (simp; done) | (simp; omega)) _ | with_reducible refine Within.trans ?_ (by assumption))))).mono ?_; rintro e5 w5 ⟨rfl, hJ, hG⟩
  have hv5 : Within w0 w5 := Within.grown (by repeat (first | with_reducible exact Within.refl _ | with_reducible assumption | with_reducible refine Within.alloc ?_ _ | with_reducible refine Within.drew ?_ | with_reducible refine Within.drewN ?_ _ | with_reducible refine Within.setCell ?_ (by first | (simp; done) | (simp; omega)) _ | with_reducible refine Within.trans ?_ (by assumption))) hG (by simp)
  have hz5 := (hv5.block _ l1).trans hz
  obtain ⟨y0, y1, yf⟩ := ex_cells hz5
  have yl := Nat.lt_of_lt_of_le l1 hv5.sizes
  refine hK _ _ (fun _ => (by repeat (first | with_reducible exact Within.refl _ | with_reducible assumption | with_reducible refine Within.alloc ?_ _ | with_reducible refine Within.drew ?_ | with_reducible refine Within.drewN ?_ _ | with_reducible refine Within.setCell ?_ (by first | (simp; done) | (simp; omega)) _ | with_reducible refine Within.trans ?_ (by assumption)))) ?_
  clear hK K
  try simp only [Act.put, List.setIfInBounds_toArray, List.set_cons_zero, List.set_cons_succ]
  apply sch_firm rfl rfl (by repeat (first | with_reducible exact Within.refl _ | with_reducible assumption | with_reducible refine Within.alloc ?_ _ | with_reducible refine Within.drew ?_ | with_reducible refine Within.drewN ?_ _ | with_reducible refine Within.setCell ?_ (by first | (simp; done) | (simp; omega)) _ | with_reducible refine Within.trans ?_ (by assumption)))
  · intro wq hq
    have hcq := hq.cells
    clear hq
    go_simp
    first | rfl | (trace_state; fail)
  try simp only [Act.put, List.setIfInBounds_toArray, List.set_cons_zero, List.set_cons_succ]
  refine sch_one rfl rfl (fun K hK => ?_)
  go_simp
  refine hK _ _ (fun h => absurd h (by decide)) ?_
  clear hK K
  try simp only [Act.put, List.setIfInBounds_toArray, List.set_cons_zero, List.set_cons_succ]
  refine sch_nil ?_
  obtain ⟨r0, r1, rI⟩ := ex_set (E := E) hz5 hJ (show w0.heap.size ≠ (w.heap.size + 1) by omega)
  have rl : (w.heap.size + 1) < w5.heap.size := by have := yl; omega
  go_wp2
  refine bodyPost_ret (v := .agg #[.pointer (some ⟨w0.heap.size, 0, none⟩), .int .i64 E]) (by simp [results, Tryz.results50, go_sem, r0, r1, rl]) rfl ⟨w0.heap.size, rfl, rI, hw0.sizes, ?_⟩
  exact ((hw0.trans hv5).setCell (by show _ ≤ (w.heap.size + 1); omega) _).setCell (by show _ ≤ (w.heap.size + 1); omega) _
set_option maxRecDepth 100000 in
set_option maxHeartbeats 600000 in
theorem Xmul (n1 n2 E1 E2 : Int) (g1 g2 : Nat) (hl1 : (dg n1.natAbs).length ≤ 1000) (hl2 : (dg n2.natAbs).length ≤ 1000) (hE1 : -100000 ≤ E1 ∧ E1 ≤ 100000) (hE2 : -100000 ≤ E2 ∧ E2 ≤ 100000) (w : World) (hI1 : IntB w g1 n1) (hI2 : IntB w g2 n2) : Calls Tryz.prog 49 #[.agg #[.pointer (some ⟨g1, 0, none⟩), .int .i64 E1], .agg #[.pointer (some ⟨g2, 0, none⟩), .int .i64 E2]] w (ExR w (n1 * n2) (E1 + E2)) := by
  have HL1 := Lib.hid hl1; have HL2 := Lib.hid hl2; clear hl1 hl2
  have gw : IntKind.i64.wrap (E1 + E2) = E1 + E2 := IntWalk.i64_in _ ⟨by omega, by omega⟩
  clear hE1 hE2
  go_enter Tryz.func49, Tryz.ntmps49
  go_wp2
  refine wp_region_schG (fun W => W.cell? ⟨w.heap.size, 0, none⟩ = some (.pointer (some ⟨g1, 0, none⟩)) ∧ W.cell? ⟨w.heap.size, 1, none⟩ = some (.int .i64 E1) ∧ W.cell? ⟨w.heap.size + 1, 0, none⟩ = some (.pointer (some ⟨g2, 0, none⟩)) ∧ W.cell? ⟨w.heap.size + 1, 1, none⟩ = some (.int .i64 E2) ∧ W.heap[w.heap.size + 2]? = some (.cells #[.pointer none, .int .i64 0] 53 (0, 0)) ∧ IntB W g1 n1 ∧ IntB W g2 n2 ∧ w.heap.size < W.heap.size ∧ w.heap.size + 1 < W.heap.size ∧ w.heap.size + 2 < W.heap.size ∧ Within w W) 12 (.firm 1 (.firm 2 (.firm 3 (.firm 4 (.firm 6 (.firm 7 (.firm 8 (.firm 9 (.firm 10 (.one 0 (.one 5 (.firm 11 (.one 12 .nil))))))))))))) (by kernel_rfl) (by kernel_rfl) ⟨by go_simp, by go_simp, by go_simp, by go_simp, (by have := heap_alloc_new ((w.alloc (.cells #[.pointer (some ⟨g1, 0, none⟩), .int .i64 E1] 53)).alloc (.cells #[.pointer (some ⟨g2, 0, none⟩), .int .i64 E2] 53)) (.cells #[.pointer none, .int .i64 0] 53); simpa using this), hI1.of (by repeat (first | with_reducible exact Within.refl _ | with_reducible assumption | with_reducible refine Within.alloc ?_ _ | with_reducible refine Within.drew ?_ | with_reducible refine Within.drewN ?_ _ | with_reducible refine Within.setCell ?_ (by first | (simp; done) | (simp; omega)) _ | with_reducible refine Within.trans ?_ (by assumption))), hI2.of (by repeat (first | with_reducible exact Within.refl _ | with_reducible assumption | with_reducible refine Within.alloc ?_ _ | with_reducible refine Within.drew ?_ | with_reducible refine Within.drewN ?_ _ | with_reducible refine Within.setCell ?_ (by first | (simp; done) | (simp; omega)) _ | with_reducible refine Within.trans ?_ (by assumption))), by first | (simp; done) | (simp; omega), by first | (simp; done) | (simp; omega), by first | (simp; done) | (simp; omega), (by repeat (first | with_reducible exact Within.refl _ | with_reducible assumption | with_reducible refine Within.alloc ?_ _ | with_reducible refine Within.drew ?_ | with_reducible refine Within.drewN ?_ _ | with_reducible refine Within.setCell ?_ (by first | (simp; done) | (simp; omega)) _ | with_reducible refine Within.trans ?_ (by assumption)))⟩ ?_
  rintro w0 ⟨c0, c1, d0, d1, hz, hI1, hI2, l0, l1, l2, hw0⟩
  try simp only [Act.put, List.setIfInBounds_toArray, List.set_cons_zero, List.set_cons_succ]
  apply sch_firm rfl rfl (by repeat (first | with_reducible exact Within.refl _ | with_reducible assumption | with_reducible refine Within.alloc ?_ _ | with_reducible refine Within.drew ?_ | with_reducible refine Within.drewN ?_ _ | with_reducible refine Within.setCell ?_ (by first | (simp; done) | (simp; omega)) _ | with_reducible refine Within.trans ?_ (by assumption)))
  · intro wq hq
    have hcq := hq.cells
    clear hq
    go_simp
    first | rfl | (trace_state; fail)
  try simp only [Act.put, List.setIfInBounds_toArray, List.set_cons_zero, List.set_cons_succ]
  apply sch_firm rfl rfl (by repeat (first | with_reducible exact Within.refl _ | with_reducible assumption | with_reducible refine Within.alloc ?_ _ | with_reducible refine Within.drew ?_ | with_reducible refine Within.drewN ?_ _ | with_reducible refine Within.setCell ?_ (by first | (simp; done) | (simp; omega)) _ | with_reducible refine Within.trans ?_ (by assumption)))
  · intro wq hq
    have hcq := hq.cells
    clear hq
    go_simp
    first | rfl | (trace_state; fail)
  try simp only [Act.put, List.setIfInBounds_toArray, List.set_cons_zero, List.set_cons_succ]
  apply sch_firm rfl rfl (by repeat (first | with_reducible exact Within.refl _ | with_reducible assumption | with_reducible refine Within.alloc ?_ _ | with_reducible refine Within.drew ?_ | with_reducible refine Within.drewN ?_ _ | with_reducible refine Within.setCell ?_ (by first | (simp; done) | (simp; omega)) _ | with_reducible refine Within.trans ?_ (by assumption)))
  · intro wq hq
    have hcq := hq.cells
    clear hq
    go_simp
    first | rfl | (trace_state; fail)
  try simp only [Act.put, List.setIfInBounds_toArray, List.set_cons_zero, List.set_cons_succ]
  apply sch_firm rfl rfl (by repeat (first | with_reducible exact Within.refl _ | with_reducible assumption | with_reducible refine Within.alloc ?_ _ | with_reducible refine Within.drew ?_ | with_reducible refine Within.drewN ?_ _ | with_reducible refine Within.setCell ?_ (by first | (simp; done) | (simp; omega)) _ | with_reducible refine Within.trans ?_ (by assumption)))
  · intro wq hq
    have hcq := hq.cells
    clear hq
    go_simp
    first | rfl | (trace_state; fail)
  try simp only [Act.put, List.setIfInBounds_toArray, List.set_cons_zero, List.set_cons_succ]
  apply sch_firm rfl rfl (by repeat (first | with_reducible exact Within.refl _ | with_reducible assumption | with_reducible refine Within.alloc ?_ _ | with_reducible refine Within.drew ?_ | with_reducible refine Within.drewN ?_ _ | with_reducible refine Within.setCell ?_ (by first | (simp; done) | (simp; omega)) _ | with_reducible refine Within.trans ?_ (by assumption)))
  · intro wq hq
    have hcq := hq.cells
    clear hq
    go_simp
    first | rfl | (trace_state; fail)
  try simp only [Act.put, List.setIfInBounds_toArray, List.set_cons_zero, List.set_cons_succ]
  apply sch_firm rfl rfl (by repeat (first | with_reducible exact Within.refl _ | with_reducible assumption | with_reducible refine Within.alloc ?_ _ | with_reducible refine Within.drew ?_ | with_reducible refine Within.drewN ?_ _ | with_reducible refine Within.setCell ?_ (by first | (simp; done) | (simp; omega)) _ | with_reducible refine Within.trans ?_ (by assumption)))
  · intro wq hq
    have hcq := hq.cells
    clear hq
    go_simp
    first | rfl | (trace_state; fail)
  try simp only [Act.put, List.setIfInBounds_toArray, List.set_cons_zero, List.set_cons_succ]
  apply sch_firm rfl rfl (by repeat (first | with_reducible exact Within.refl _ | with_reducible assumption | with_reducible refine Within.alloc ?_ _ | with_reducible refine Within.drew ?_ | with_reducible refine Within.drewN ?_ _ | with_reducible refine Within.setCell ?_ (by first | (simp; done) | (simp; omega)) _ | with_reducible refine Within.trans ?_ (by assumption)))
  · intro wq hq
    have hcq := hq.cells
    clear hq
    go_simp
    first | rfl | (trace_state; fail)
  try simp only [Act.put, List.setIfInBounds_toArray, List.set_cons_zero, List.set_cons_succ]
  apply sch_firm rfl rfl (by repeat (first | with_reducible exact Within.refl _ | with_reducible assumption | with_reducible refine Within.alloc ?_ _ | with_reducible refine Within.drew ?_ | with_reducible refine Within.drewN ?_ _ | with_reducible refine Within.setCell ?_ (by first | (simp; done) | (simp; omega)) _ | with_reducible refine Within.trans ?_ (by assumption)))
  · intro wq hq
    have hcq := hq.cells
    clear hq
    go_simp
    first | rfl | (trace_state; fail)
  try simp only [Act.put, List.setIfInBounds_toArray, List.set_cons_zero, List.set_cons_succ]
  apply sch_firm rfl rfl (by repeat (first | with_reducible exact Within.refl _ | with_reducible assumption | with_reducible refine Within.alloc ?_ _ | with_reducible refine Within.drew ?_ | with_reducible refine Within.drewN ?_ _ | with_reducible refine Within.setCell ?_ (by first | (simp; done) | (simp; omega)) _ | with_reducible refine Within.trans ?_ (by assumption)))
  · intro wq hq
    have hcq := hq.cells
    clear hq
    go_simp
    first | rfl | (trace_state; fail)
  try simp only [Act.put, List.setIfInBounds_toArray, List.set_cons_zero, List.set_cons_succ]
  refine sch_one rfl rfl (fun K hK => ?_)
  go_simp
  refine hK _ _ (fun _ => (by repeat (first | with_reducible exact Within.refl _ | with_reducible assumption | with_reducible refine Within.alloc ?_ _ | with_reducible refine Within.drew ?_ | with_reducible refine Within.drewN ?_ _ | with_reducible refine Within.setCell ?_ (by first | (simp; done) | (simp; omega)) _ | with_reducible refine Within.trans ?_ (by assumption)))) ?_
  clear hK K
  try simp only [Act.put, List.setIfInBounds_toArray, List.set_cons_zero, List.set_cons_succ]
  refine sch_one rfl rfl (fun K hK => ?_)
  go_simp
  refine (Bmul _ g1 g2 n1 n2 (Nat.le_trans HL1.out (by decide)) (Nat.le_trans HL2.out (by decide)) _ (by exact (IntB.made w0).ty) (IntB.of hI1 (by repeat (first | with_reducible exact Within.refl _ | with_reducible assumption | with_reducible refine Within.alloc ?_ _ | with_reducible refine Within.drew ?_ | with_reducible refine Within.drewN ?_ _ | with_reducible refine Within.setCell ?_ (by first | (simp; done) | (simp; omega)) _ | with_reducible refine Within.trans ?_ (by assumption)))) (IntB.of hI2 (by repeat (first | with_reducible exact Within.refl _ | with_reducible assumption | with_reducible refine Within.alloc ?_ _ | with_reducible refine Within.drew ?_ | with_reducible refine Within.drewN ?_ _ | with_reducible refine Within.setCell ?_ (by first | (simp; done) | (simp; omega)) _ | with_reducible refine Within.trans ?_ (by assumption))))).mono ?_; rintro e5 w5 ⟨rfl, hJ, hG⟩
  have hv5 : Within w0 w5 := Within.grown (by repeat (first | with_reducible exact Within.refl _ | with_reducible assumption | with_reducible refine Within.alloc ?_ _ | with_reducible refine Within.drew ?_ | with_reducible refine Within.drewN ?_ _ | with_reducible refine Within.setCell ?_ (by first | (simp; done) | (simp; omega)) _ | with_reducible refine Within.trans ?_ (by assumption))) hG (by simp)
  have hz5 := (hv5.block _ l2).trans hz
  obtain ⟨y0, y1, yf⟩ := ex_cells hz5
  have yl := Nat.lt_of_lt_of_le l2 hv5.sizes
  refine hK _ _ (fun _ => (by repeat (first | with_reducible exact Within.refl _ | with_reducible assumption | with_reducible refine Within.alloc ?_ _ | with_reducible refine Within.drew ?_ | with_reducible refine Within.drewN ?_ _ | with_reducible refine Within.setCell ?_ (by first | (simp; done) | (simp; omega)) _ | with_reducible refine Within.trans ?_ (by assumption)))) ?_
  clear hK K
  try simp only [Act.put, List.setIfInBounds_toArray, List.set_cons_zero, List.set_cons_succ]
  apply sch_firm rfl rfl (by repeat (first | with_reducible exact Within.refl _ | with_reducible assumption | with_reducible refine Within.alloc ?_ _ | with_reducible refine Within.drew ?_ | with_reducible refine Within.drewN ?_ _ | with_reducible refine Within.setCell ?_ (by first | (simp; done) | (simp; omega)) _ | with_reducible refine Within.trans ?_ (by assumption)))
  · intro wq hq
    have hcq := hq.cells
    clear hq
    go_simp
    first | rfl | (trace_state; fail)
  try simp only [Act.put, List.setIfInBounds_toArray, List.set_cons_zero, List.set_cons_succ]
  refine sch_one rfl rfl (fun K hK => ?_)
  go_simp
  refine hK _ _ (fun h => absurd h (by decide)) ?_
  clear hK K
  try simp only [Act.put, List.setIfInBounds_toArray, List.set_cons_zero, List.set_cons_succ]
  refine sch_nil ?_
  obtain ⟨r0, r1, rI⟩ := ex_set (E := (E1 + E2)) hz5 hJ (show w0.heap.size ≠ (w.heap.size + 2) by omega)
  have rl : (w.heap.size + 2) < w5.heap.size := by have := yl; omega
  go_wp2
  refine bodyPost_ret (v := .agg #[.pointer (some ⟨w0.heap.size, 0, none⟩), .int .i64 (E1 + E2)]) (by simp [results, Tryz.results49, go_sem, r0, r1, rl]) rfl ⟨w0.heap.size, rfl, rI, hw0.sizes, ?_⟩
  exact ((hw0.trans hv5).setCell (by show _ ≤ (w.heap.size + 2); omega) _).setCell (by show _ ≤ (w.heap.size + 2); omega) _
def ofN (b : Nat) : Int := sgv (pNegD b) (pMantD b)
set_option maxRecDepth 100000 in
set_option maxHeartbeats 600000 in
theorem Xof0 (x : Nat) (neg : Bool) (m : Nat) (p : Int) (er : Value) (hm : m < 18446744073709551616) (CP : Hid (∀ w, Calls Tryz.prog 96 #[.float .f64 x] w fun e w' => e = .returned (.tuple #[.agg #[.bool neg, .int .u64 (m : Int), .int .i64 p], er]) ∧ Within w w')) (w : World) : Calls Tryz.prog 44 #[.float .f64 x] w (ExR w (sgv neg m) p) := by
  have HM := Lib.hid hm; clear hm
  go_enter Tryz.func44, Tryz.ntmps44
  go_wp2_with fail
  refine (CP.out _).mono ?_; rintro e1 w1 ⟨rfl, hb1⟩
  have HT : IntTy ((w1.alloc (.cells #[.bool neg, .int .u64 (m : Int), .int .i64 p] 97)).alloc (.cells #[.bool false, .slice none 0 0] 102)) (w1.heap.size + 1) := by
    have := (IntB.made (w1.alloc (.cells #[.bool neg, .int .u64 (m : Int), .int .i64 p] 97))).ty
    simpa using this
  go_wp2_with fail
  have k0 : ((w1.alloc (.cells #[.bool neg, .int .u64 (m : Int), .int .i64 p] 97)).alloc (.cells #[.bool false, .slice none 0 0] 102)).cell? ⟨w1.heap.size, 0, none⟩ = some (.bool neg) := by simp [go_sem]
  have k2 : ((w1.alloc (.cells #[.bool neg, .int .u64 (m : Int), .int .i64 p] 97)).alloc (.cells #[.bool false, .slice none 0 0] 102)).cell? ⟨w1.heap.size, 2, none⟩ = some (.int .i64 p) := by simp [go_sem]
  have hz1 : w1.heap[w.heap.size]? = some (.cells #[.pointer none, .int .i64 0] 53 (0, 0)) := (hb1.block _ (by simp)).trans (heap_alloc_new w _)
  have hww : Within w w1 := ((Within.refl w).alloc _).trans hb1
  have HW2 : Within w ((w1.alloc (.cells #[.bool neg, .int .u64 (m : Int), .int .i64 p] 97)).alloc (.cells #[.bool false, .slice none 0 0] 102)) := (hww.alloc _).alloc _
  have hzz : ((w1.alloc (.cells #[.bool neg, .int .u64 (m : Int), .int .i64 p] 97)).alloc (.cells #[.bool false, .slice none 0 0] 102)).heap[w.heap.size]? = some (.cells #[.pointer none, .int .i64 0] 53 (0, 0)) := ((((Within.refl w1).alloc _).alloc _).block _ (by have := hb1.size; simp at this; omega)).trans hz1
  obtain ⟨W2, hW2⟩ : ∃ W2, W2 = ((w1.alloc (.cells #[.bool neg, .int .u64 (m : Int), .int .i64 p] 97)).alloc (.cells #[.bool false, .slice none 0 0] 102)) := ⟨_, rfl⟩
  have hsz : W2.heap.size = w1.heap.size + 2 := by rw [hW2]; simp
  have hl : w.heap.size + 1 ≤ w1.heap.size := by have := hb1.size; simpa using this
  rw [← hW2] at HT k0 k2 HW2 hzz ⊢
  clear hW2 hz1
  have HS := Lib.hid hsz; have HL := Lib.hid hl; clear hsz hl
  refine (BsetUint64 (w1.heap.size + 1) m HM.out W2 HT).mono ?_; rintro e2 w2 ⟨rfl, hI2, hv2⟩
  have q0 := hv2.cell k0 (by simp)
  have q2 := hv2.cell k2 (by simp)
  have HLN := Lib.hid (show (dg (m : Int).natAbs).length ≤ 2000000 by rw [Int.natAbs_natCast]; exact Nat.le_trans (dg_len_le (k := 2) HM.out) (by decide))
  cases neg
  · rw [show sgv false m = (m : Int) from rfl]
    have hz2 := (hv2.block w.heap.size (by show w.heap.size < W2.heap.size; have := HS.out; have := HL.out; omega) (by simp; have := HL.out; omega)).trans hzz
    obtain ⟨y0, y1, yf⟩ := ex_cells hz2
    have yl : w.heap.size < w2.heap.size := World.block_lt_of_cell? _ _ y0
    have pl : w1.heap.size < w2.heap.size := World.block_lt_of_cell? _ _ q2
    obtain ⟨r0, r1, rI⟩ := ex_set (E := p) hz2 hI2 (show w1.heap.size + 1 ≠ w.heap.size by have := HL.out; omega)
    go_wp2
    refine bodyPost_ret (v := .agg #[.pointer (some ⟨(w1.heap.size + 1), 0, none⟩), .int .i64 p]) (by simp [results, Tryz.results44, go_sem, r0, r1, yl]) rfl ⟨w1.heap.size + 1, rfl, rI, by have := HL.out; omega, ?_⟩
    exact ((Within.grown HW2 hv2 (by have := HL.out; omega)).setCell (by show _ ≤ w.heap.size; omega) _).setCell (by show _ ≤ w.heap.size; omega) _
  · rw [show sgv true m = -(m : Int) from rfl]
    go_wp2_with fail
    refine (Bneg (w1.heap.size + 1) (w1.heap.size + 1) (m : Int) HLN.out w2 hI2.ty hI2).mono ?_; rintro e3 w3 ⟨rfl, hI3, hG3⟩
    have q2 := hG3.cell q2 (by simp)
    have hv3 := grown_trans hv2 hG3
    have hz3 := (hv3.block w.heap.size (by show w.heap.size < W2.heap.size; have := HS.out; have := HL.out; omega) (by simp; have := HL.out; omega)).trans hzz
    obtain ⟨y0, y1, yf⟩ := ex_cells hz3
    have yl : w.heap.size < w3.heap.size := World.block_lt_of_cell? _ _ y0
    have pl : w1.heap.size < w3.heap.size := World.block_lt_of_cell? _ _ q2
    obtain ⟨r0, r1, rI⟩ := ex_set (E := p) hz3 hI3 (show w1.heap.size + 1 ≠ w.heap.size by have := HL.out; omega)
    go_wp2
    refine bodyPost_ret (v := .agg #[.pointer (some ⟨(w1.heap.size + 1), 0, none⟩), .int .i64 p]) (by simp [results, Tryz.results44, go_sem, r0, r1, yl]) rfl ⟨w1.heap.size + 1, rfl, rI, by have := HL.out; omega, ?_⟩
    exact ((Within.grown HW2 hv3 (by have := HL.out; omega)).setCell (by show _ ≤ w.heap.size; omega) _).setCell (by show _ ≤ w.heap.size; omega) _
theorem Xof (b : Nat) (hb : b < 18446744073709551616) (w : World) : Calls Tryz.prog 44 #[.float .f64 b] w (ExR w (ofN b) (pExpD b)) :=
  Xof0 b (pNegD b) (pMantD b) (pExpD b) (.int .i64 (pErrD b)) (P64.pMantD_lt b) (Lib.hid fun w => Rparts_D b hb w) w
end Go.Proofs.YtjmaggfddinbkaaGreatDoor
end

section
namespace Go.Proofs.YtjmaggfddinbkaaGreatDoor
open Go.RowKit
def ExS (W : World) (n E : Int) (e : Ending) (w' : World) : Prop := ∃ h, e = .returned (.agg #[.pointer (some ⟨h, 0, none⟩), .int .i64 E]) ∧ IntB w' h n ∧ Within W w'
theorem ExR.s {W w' : World} {n E : Int} {e : Ending} (h : ExR W n E e w') : ExS W n E e w' := by
  obtain ⟨g, h1, h2, _, h4⟩ := h
  exact ⟨g, h1, h2, h4⟩
set_option maxRecDepth 100000 in
set_option maxHeartbeats 600000 in
theorem Xlow_same (n E e : Int) (g : Nat) (he : E ≤ e) (w : World) (hI : IntB w g n) : Calls Tryz.prog 104 #[.agg #[.pointer (some ⟨g, 0, none⟩), .int .i64 E], .int .i64 e] w (ExS w n E) := by
  have d : decide (e ≥ E) = true := decide_eq_true (by omega)
  clear he
  have hgl := hI.lt
  have HI := Lib.hid hI; clear hI
  have hz : ((w.alloc (.cells #[.pointer (some ⟨g, 0, none⟩), .int .i64 E] 53)).alloc (.cells #[.pointer none, .int .i64 0] 53)).heap[w.heap.size + 1]? = some (.cells #[.pointer none, .int .i64 0] 53 (0, 0)) := by have := heap_alloc_new (w.alloc (.cells #[.pointer (some ⟨g, 0, none⟩), .int .i64 E] 53)) (.cells #[.pointer none, .int .i64 0] 53); simpa using this
  go_enter Tryz.func104, Tryz.ntmps104
  go_wp2
  refine bodyPost_ret (v := .agg #[.pointer (some ⟨g, 0, none⟩), .int .i64 E]) (by simp [results, Tryz.results104, go_sem]) rfl ⟨g, rfl, HI.out.of (((Within.refl w).alloc _).alloc _), ((Within.refl w).alloc _).alloc _⟩
set_option maxRecDepth 100000 in
set_option maxHeartbeats 600000 in
theorem Xlow_less (n E e : Int) (g k : Nat) (he : E - e = (k : Int)) (hk : 0 < k) (hk2 : k ≤ 16000) (hl : (dg n.natAbs).length ≤ 1000) (w : World) (hI : IntB w g n) : Calls Tryz.prog 104 #[.agg #[.pointer (some ⟨g, 0, none⟩), .int .i64 E], .int .i64 e] w (ExS w (n * 2 ^ k) e) := by
  have d : decide (e ≥ E) = false := decide_eq_false (by omega)
  have hgl := hI.lt
  have HI := Lib.hid hI; clear hI
  have hz : ((w.alloc (.cells #[.pointer (some ⟨g, 0, none⟩), .int .i64 E] 53)).alloc (.cells #[.pointer none, .int .i64 0] 53)).heap[w.heap.size + 1]? = some (.cells #[.pointer none, .int .i64 0] 53 (0, 0)) := by have := heap_alloc_new (w.alloc (.cells #[.pointer (some ⟨g, 0, none⟩), .int .i64 E] 53)) (.cells #[.pointer none, .int .i64 0] 53); simpa using this
  have g1 : IntKind.i64.wrap (E - e) = (k : Int) := by rw [he, IntWalk.i64_in _ ⟨by omega, by omega⟩]
  have g2 : IntKind.u64.wrap (k : Int) = (k : Int) := by rw [IntKind.wrap_u64]; omega
  have CL := Lib.hid (fun z w' hz hx => Blsh z g k n (Nat.le_trans hl (by decide)) (Nat.le_trans hk2 (by decide)) w' hz hx)
  have hT : IntTy (((w.alloc (.cells #[.pointer (some ⟨g, 0, none⟩), .int .i64 E] 53)).alloc (.cells #[.pointer none, .int .i64 0] 53)).alloc (.cells #[.bool false, .slice none 0 0] 102)) (w.heap.size + 1 + 1) := by have := (IntB.made ((w.alloc (.cells #[.pointer (some ⟨g, 0, none⟩), .int .i64 E] 53)).alloc (.cells #[.pointer none, .int .i64 0] 53))).ty; simpa using this
  clear he hk hk2 hl
  go_enter Tryz.func104, Tryz.ntmps104
  go_wp2_with fail
  refine (CL.out _ _ (by exact hT) (HI.out.of ((((Within.refl w).alloc _).alloc _).alloc _))).mono ?_; rintro e5 w5 ⟨rfl, hJ, hG⟩
  have hz5 := (hG.block (w.heap.size + 1) (by simp) (by simp)).trans ((((Within.refl ((w.alloc (.cells #[.pointer (some ⟨g, 0, none⟩), .int .i64 E] 53)).alloc (.cells #[.pointer none, .int .i64 0] 53))).alloc _).block _ (by simp)).trans hz)
  obtain ⟨y0, y1, yf⟩ := ex_cells hz5
  have yl : w.heap.size + 1 < w5.heap.size := World.block_lt_of_cell? _ _ y0
  obtain ⟨r0, r1, rI⟩ := ex_set (E := e) hz5 hJ (by simp)
  have hv5 : Within w w5 := Within.grown ((((Within.refl w).alloc _).alloc _).alloc _) hG (by omega)
  go_wp2
  refine bodyPost_ret (v := .agg #[.pointer (some ⟨(w.heap.size + 1 + 1), 0, none⟩), .int .i64 e]) (by simp [results, Tryz.results104, go_sem, r0, r1, yl]) rfl ⟨_, rfl, rI, ?_⟩
  exact (hv5.setCell (by show _ ≤ w.heap.size + 1; omega) _).setCell (by show _ ≤ w.heap.size + 1; omega) _
end Go.Proofs.YtjmaggfddinbkaaGreatDoor
end

section
namespace Go.Proofs.YtjmaggfddinbkaaGreatDoor
open Go.RowKit
set_option maxRecDepth 100000 in
set_option maxHeartbeats 600000 in
theorem Bsign_zero (x : Nat) (v : Int) (h : v = 0) (w : World) (hx : IntB w x v) : Calls Tryz.prog 62 #[.pointer (some ⟨x, 0, none⟩)] w (fun e w' => e = .returned (.int .i64 (0)) ∧ w = w') := by
  obtain ⟨A, c, c0, c1, _⟩ := hx.rd
  subst h
  rw [show (dg (0 : Int).natAbs) = [] from dg_zero] at c1
  have d : (((List.length ([] : List Nat) : Nat) : Int) == 0) = true := rfl
  clear hx
  go_enter Tryz.func62, Tryz.ntmps62
  go_wp2
  go_ret
  exact ⟨rfl, rfl⟩
set_option maxRecDepth 100000 in
set_option maxHeartbeats 600000 in
theorem Bsign_neg (x : Nat) (v : Int) (h : v < 0) (w : World) (hx : IntB w x v) : Calls Tryz.prog 62 #[.pointer (some ⟨x, 0, none⟩)] w (fun e w' => e = .returned (.int .i64 (-1)) ∧ w = w') := by
  obtain ⟨A, c, c0, c1, _⟩ := hx.rd
  have hp := dg_len_pos (n := v.natAbs) (by omega)
  rw [decide_eq_true (by omega)] at c0
  obtain ⟨k, hk⟩ : ∃ k, k = (dg v.natAbs).length := ⟨_, rfl⟩
  rw [← hk] at c1 hp
  clear hk
  have d : ((k : Int) == 0) = false := beq_eq_false_iff_ne.2 (by omega)
  clear hx h
  go_enter Tryz.func62, Tryz.ntmps62
  go_wp2
  go_ret
  exact ⟨rfl, rfl⟩
set_option maxRecDepth 100000 in
set_option maxHeartbeats 600000 in
theorem Bsign_pos (x : Nat) (v : Int) (h : 0 < v) (w : World) (hx : IntB w x v) : Calls Tryz.prog 62 #[.pointer (some ⟨x, 0, none⟩)] w (fun e w' => e = .returned (.int .i64 (1)) ∧ w = w') := by
  obtain ⟨A, c, c0, c1, _⟩ := hx.rd
  have hp := dg_len_pos (n := v.natAbs) (by omega)
  rw [decide_eq_false (by omega)] at c0
  obtain ⟨k, hk⟩ : ∃ k, k = (dg v.natAbs).length := ⟨_, rfl⟩
  rw [← hk] at c1 hp
  clear hk
  have d : ((k : Int) == 0) = false := beq_eq_false_iff_ne.2 (by omega)
  clear hx h
  go_enter Tryz.func62, Tryz.ntmps62
  go_wp2
  go_ret
  exact ⟨rfl, rfl⟩
theorem Bsign (x : Nat) (v : Int) (w : World) (hx : IntB w x v) : Calls Tryz.prog 62 #[.pointer (some ⟨x, 0, none⟩)] w (fun e w' => e = .returned (.int .i64 v.sign) ∧ w = w') := by
  rcases Int.lt_trichotomy v 0 with h | h | h
  · rw [Int.sign_eq_neg_one_of_neg h]; exact Bsign_neg x v h w hx
  · subst h; exact Bsign_zero x 0 rfl w hx
  · rw [Int.sign_eq_one_of_pos h]; exact Bsign_pos x v h w hx
def cmpI (a b : Int) : Int := if a < b then -1 else if b < a then 1 else 0
theorem cmpN_range (a b : Nat) : -1 ≤ cmpN a b ∧ cmpN a b ≤ 1 := by unfold cmpN; split <;> (try split) <;> omega
set_option maxRecDepth 100000 in
set_option maxHeartbeats 600000 in
theorem Bcmp_00 (x y : Nat) (na nb : Nat) (A Bv : Option Addr) (ca cb : Nat) (ha : (dg na).length ≤ 1000000) (hb : (dg nb).length ≤ 1000000) (w : World) (a0 : w.cell? ⟨x, 0, none⟩ = some (.bool false)) (a1 : w.cell? ⟨x, 1, none⟩ = some (.slice A (dg na).length ca)) (hra : RowAt w A (dg na)) (b0 : w.cell? ⟨y, 0, none⟩ = some (.bool false)) (b1 : w.cell? ⟨y, 1, none⟩ = some (.slice Bv (dg nb).length cb)) (hrb : RowAt w Bv (dg nb)) : Calls Tryz.prog 178 #[.pointer (some ⟨x, 0, none⟩), .pointer (some ⟨y, 0, none⟩)] w (fun e w' => e = .returned (.int .i64 (cmpN na nb)) ∧ Within w w') := by
  have HRA := Lib.hid hra; have HRB := Lib.hid hrb; clear hra hrb
  have hlx := World.block_lt_of_cell? w _ a0; have hly := World.block_lt_of_cell? w _ b0
  go_enter Tryz.func178, Tryz.ntmps178
  go_wp2
  go_quiet (fail)
  go_wp2
  obtain ⟨w1, hw1⟩ : ∃ w1, w1 = w.drewN nq := ⟨_, rfl⟩
  rw [← hw1]
  have hb1 : Within w w1 := by rw [hw1]; exact (Within.refl w).drewN _
  have a0' := (hb1.cells _ 0 hlx).trans a0; have a1' := (hb1.cells _ 1 hlx).trans a1; have b1' := (hb1.cells _ 1 hly).trans b1
  clear hw1
  refine wp_region_sched (fun W => W.cell? ⟨x, 1, none⟩ = some (.slice A (dg na).length ca) ∧ W.cell? ⟨y, 1, none⟩ = some (.slice Bv (dg nb).length cb)) 8 [(0, true), (1, true), (2, true), (3, true), (4, true), (5, true), (6, true), (7, true), (8, false), (9, false)] (by kernel_rfl) (by kernel_rfl) ⟨a1', b1'⟩ ?_
  intro hS
  repeat
    apply sched_firm rfl rfl hS
    · intro wq hq
      have hq0 := hq.1; have hq1 := hq.2
      clear hq
      go_simp
      first | rfl | (trace_state; fail)
    try simp only [Act.put, List.setIfInBounds_toArray, List.set_cons_zero, List.set_cons_succ]
  refine sched_one rfl rfl (fun K hK => ?_)
  go_simp
  refine (Bcompare na nb A Bv ca cb (by omega) (by omega) w1.drew (RowAt.drew (HRA.out.of hb1)) (RowAt.drew (HRB.out.of hb1))).mono ?_
  rintro e1 w2 ⟨rfl, hb2'⟩
  obtain ⟨cm, hcm⟩ : ∃ cm, cm = cmpN na nb := ⟨_, rfl⟩
  have hr := cmpN_range na nb
  rw [← hcm] at hr ⊢
  have HCM := Lib.hid hcm; clear hcm
  have hb2 : Within w w2 := hb1.drew.trans hb2'
  refine hK _ _ (fun h => absurd h (by decide)) ?_
  clear hK K
  try simp only [Act.put, List.setIfInBounds_toArray, List.set_cons_zero, List.set_cons_succ]
  refine sched_one rfl rfl (fun K hK => ?_)
  go_simp
  refine hK _ _ (fun h => absurd h (by decide)) ?_
  clear hK K
  try simp only [Act.put, List.setIfInBounds_toArray, List.set_cons_zero, List.set_cons_succ]
  refine sched_nil ?_
  have a0'' := (hb2.cells _ 0 hlx).trans a0
  go_wp2
  go_ret
  exact ⟨ret_int (by rw [HCM.out]), hb2⟩
set_option maxRecDepth 100000 in
set_option maxHeartbeats 600000 in
theorem Bcmp_01 (x y : Nat) (na nb : Nat) (A Bv : Option Addr) (ca cb : Nat) (ha : (dg na).length ≤ 1000000) (hb : (dg nb).length ≤ 1000000) (w : World) (a0 : w.cell? ⟨x, 0, none⟩ = some (.bool false)) (a1 : w.cell? ⟨x, 1, none⟩ = some (.slice A (dg na).length ca)) (hra : RowAt w A (dg na)) (b0 : w.cell? ⟨y, 0, none⟩ = some (.bool true)) (b1 : w.cell? ⟨y, 1, none⟩ = some (.slice Bv (dg nb).length cb)) (hrb : RowAt w Bv (dg nb)) : Calls Tryz.prog 178 #[.pointer (some ⟨x, 0, none⟩), .pointer (some ⟨y, 0, none⟩)] w (fun e w' => e = .returned (.int .i64 (1)) ∧ Within w w') := by
  clear hra hrb ha hb
  go_enter Tryz.func178, Tryz.ntmps178
  go_wp2
  go_quiet (fail)
  go_wp2
  go_ret
  exact ⟨rfl, (Within.refl w).drewN _⟩
set_option maxRecDepth 100000 in
set_option maxHeartbeats 600000 in
theorem Bcmp_10 (x y : Nat) (na nb : Nat) (A Bv : Option Addr) (ca cb : Nat) (ha : (dg na).length ≤ 1000000) (hb : (dg nb).length ≤ 1000000) (w : World) (a0 : w.cell? ⟨x, 0, none⟩ = some (.bool true)) (a1 : w.cell? ⟨x, 1, none⟩ = some (.slice A (dg na).length ca)) (hra : RowAt w A (dg na)) (b0 : w.cell? ⟨y, 0, none⟩ = some (.bool false)) (b1 : w.cell? ⟨y, 1, none⟩ = some (.slice Bv (dg nb).length cb)) (hrb : RowAt w Bv (dg nb)) : Calls Tryz.prog 178 #[.pointer (some ⟨x, 0, none⟩), .pointer (some ⟨y, 0, none⟩)] w (fun e w' => e = .returned (.int .i64 (-1)) ∧ Within w w') := by
  clear hra hrb ha hb
  go_enter Tryz.func178, Tryz.ntmps178
  go_wp2
  go_quiet (fail)
  go_wp2
  go_ret
  exact ⟨rfl, (Within.refl w).drewN _⟩
set_option maxRecDepth 100000 in
set_option maxHeartbeats 600000 in
theorem Bcmp_11 (x y : Nat) (na nb : Nat) (A Bv : Option Addr) (ca cb : Nat) (ha : (dg na).length ≤ 1000000) (hb : (dg nb).length ≤ 1000000) (w : World) (a0 : w.cell? ⟨x, 0, none⟩ = some (.bool true)) (a1 : w.cell? ⟨x, 1, none⟩ = some (.slice A (dg na).length ca)) (hra : RowAt w A (dg na)) (b0 : w.cell? ⟨y, 0, none⟩ = some (.bool true)) (b1 : w.cell? ⟨y, 1, none⟩ = some (.slice Bv (dg nb).length cb)) (hrb : RowAt w Bv (dg nb)) : Calls Tryz.prog 178 #[.pointer (some ⟨x, 0, none⟩), .pointer (some ⟨y, 0, none⟩)] w (fun e w' => e = .returned (.int .i64 (-cmpN na nb)) ∧ Within w w') := by
  have HRA := Lib.hid hra; have HRB := Lib.hid hrb; clear hra hrb
  have hlx := World.block_lt_of_cell? w _ a0; have hly := World.block_lt_of_cell? w _ b0
  go_enter Tryz.func178, Tryz.ntmps178
  go_wp2
  go_quiet (fail)
  go_wp2
  obtain ⟨w1, hw1⟩ : ∃ w1, w1 = w.drewN nq := ⟨_, rfl⟩
  rw [← hw1]
  have hb1 : Within w w1 := by rw [hw1]; exact (Within.refl w).drewN _
  have a0' := (hb1.cells _ 0 hlx).trans a0; have a1' := (hb1.cells _ 1 hlx).trans a1; have b1' := (hb1.cells _ 1 hly).trans b1
  clear hw1
  refine wp_region_sched (fun W => W.cell? ⟨x, 1, none⟩ = some (.slice A (dg na).length ca) ∧ W.cell? ⟨y, 1, none⟩ = some (.slice Bv (dg nb).length cb)) 8 [(0, true), (1, true), (2, true), (3, true), (4, true), (5, true), (6, true), (7, true), (8, false), (9, false)] (by kernel_rfl) (by kernel_rfl) ⟨a1', b1'⟩ ?_
  intro hS
  repeat
    apply sched_firm rfl rfl hS
    · intro wq hq
      have hq0 := hq.1; have hq1 := hq.2
      clear hq
      go_simp
      first | rfl | (trace_state; fail)
    try simp only [Act.put, List.setIfInBounds_toArray, List.set_cons_zero, List.set_cons_succ]
  refine sched_one rfl rfl (fun K hK => ?_)
  go_simp
  refine (Bcompare na nb A Bv ca cb (by omega) (by omega) w1.drew (RowAt.drew (HRA.out.of hb1)) (RowAt.drew (HRB.out.of hb1))).mono ?_
  rintro e1 w2 ⟨rfl, hb2'⟩
  obtain ⟨cm, hcm⟩ : ∃ cm, cm = cmpN na nb := ⟨_, rfl⟩
  have hr := cmpN_range na nb
  rw [← hcm] at hr ⊢
  have HCM := Lib.hid hcm; clear hcm
  have hb2 : Within w w2 := hb1.drew.trans hb2'
  refine hK _ _ (fun h => absurd h (by decide)) ?_
  clear hK K
  try simp only [Act.put, List.setIfInBounds_toArray, List.set_cons_zero, List.set_cons_succ]
  refine sched_one rfl rfl (fun K hK => ?_)
  go_simp
  refine hK _ _ (fun h => absurd h (by decide)) ?_
  clear hK K
  try simp only [Act.put, List.setIfInBounds_toArray, List.set_cons_zero, List.set_cons_succ]
  refine sched_nil ?_
  have a0'' := (hb2.cells _ 0 hlx).trans a0
  have g1 : IntKind.i64.wrap (-cm) = -cm := by rw [IntKind.wrap_i64]; omega
  go_wp2
  go_ret
  exact ⟨ret_int (by rw [HCM.out]), hb2⟩
theorem Bcmp (x y : Nat) (a b : Int) (ha : (dg a.natAbs).length ≤ 1000000) (hb : (dg b.natAbs).length ≤ 1000000) (w : World) (hx : IntB w x a) (hy : IntB w y b) : Calls Tryz.prog 178 #[.pointer (some ⟨x, 0, none⟩), .pointer (some ⟨y, 0, none⟩)] w (fun e w' => e = .returned (.int .i64 (cmpI a b)) ∧ Within w w') := by
  obtain ⟨A, ca, a0, a1, hra⟩ := hx.rd
  obtain ⟨Bv, cb, b0, b1, hrb⟩ := hy.rd
  by_cases ha0 : a < 0 <;> by_cases hb0 : b < 0
  · rw [decide_eq_true ha0] at a0; rw [decide_eq_true hb0] at b0
    refine (Bcmp_11 x y _ _ A Bv ca cb ha hb w a0 a1 hra b0 b1 hrb).mono fun e w' h => ⟨h.1.trans (ret_int ?_), h.2⟩
    unfold cmpI cmpN; repeat' split
    all_goals omega
  · rw [decide_eq_true ha0] at a0; rw [decide_eq_false hb0] at b0
    refine (Bcmp_10 x y _ _ A Bv ca cb ha hb w a0 a1 hra b0 b1 hrb).mono fun e w' h => ⟨h.1.trans (ret_int ?_), h.2⟩
    unfold cmpI; rw [if_pos (by omega)]
  · rw [decide_eq_false ha0] at a0; rw [decide_eq_true hb0] at b0
    refine (Bcmp_01 x y _ _ A Bv ca cb ha hb w a0 a1 hra b0 b1 hrb).mono fun e w' h => ⟨h.1.trans (ret_int ?_), h.2⟩
    unfold cmpI; rw [if_neg (by omega), if_pos (by omega)]
  · rw [decide_eq_false ha0] at a0; rw [decide_eq_false hb0] at b0
    refine (Bcmp_00 x y _ _ A Bv ca cb ha hb w a0 a1 hra b0 b1 hrb).mono fun e w' h => ⟨h.1.trans (ret_int ?_), h.2⟩
    unfold cmpI cmpN; repeat' split
    all_goals omega
def blen (n : Nat) : Nat := if n = 0 then 0 else n.log2 + 1
theorem blen_zero : blen 0 = 0 := rfl
theorem blen_pos {n : Nat} (h : n ≠ 0) : blen n = n.log2 + 1 := if_neg h
theorem blen_top {n k : Nat} (hk : (dg n).length = k + 1) : blen n = 32 * k + Lib.bitLen ((dg n).getD k 0) ∧ (dg n).getD k 0 ≠ 0 ∧ (dg n).getD k 0 < 4294967296 := by
  have h0 : n ≠ 0 := fun h => by rw [h, dg_zero] at hk; simp at hk
  have ht := dg_last h0
  rw [hk, Nat.add_sub_cancel] at ht
  have hw := (words_dg n).getD k
  refine ⟨?_, ht, hw⟩
  have hs := lo_succ (dg n) k
  rw [lo_all _ (Nat.le_of_eq hk), wval_dg] at hs
  have hl := lo_lt (dg n) (words_dg n) k
  rw [blen_pos h0, bitLen_log2 _ ht (by omega)]
  generalize (dg n).getD k 0 = t at *
  have e : (4294967296 : Nat) ^ k = 2 ^ (32 * k) := by rw [show (4294967296 : Nat) = 2 ^ 32 from rfl, ← Nat.pow_mul]
  rw [e] at hs hl
  have h1 : n / 2 ^ (32 * k) = t := by
    rw [hs, Nat.add_mul_div_left _ _ (Nat.two_pow_pos _), Nat.div_eq_of_lt hl, Nat.zero_add]
  have h2 : n.log2 = 32 * k + t.log2 := by
    rw [Nat.log2_eq_iff h0]
    have a1 := Nat.log2_self_le ht
    have a2 := Nat.lt_log2_self (n := t)
    constructor
    · rw [Nat.pow_add]
      calc 2 ^ (32 * k) * 2 ^ t.log2 ≤ 2 ^ (32 * k) * t := Nat.mul_le_mul_left _ a1
        _ ≤ n := by rw [← h1]; exact Nat.mul_div_le _ _
    · rw [Nat.add_assoc, Nat.pow_add]
      have : n < 2 ^ (32 * k) * (t + 1) := by rw [← h1]; exact Nat.lt_mul_div_succ _ (Nat.two_pow_pos _)
      exact Nat.lt_of_lt_of_le this (Nat.mul_le_mul_left _ a2)
  omega
set_option maxRecDepth 100000 in
set_option maxHeartbeats 600000 in
theorem bits_len32' (x : Int) (w : World) (h0 : 0 ≤ x) (h1 : x ≤ 4294967295) : Calls Tryz.prog 135 #[.int .u32 x] w (fun e w' => e = .returned (.int .i64 (Lib.bitLen x.toNat)) ∧ w = w') := by
  have hsz := len8_size
  go_enter Tryz.func135, Tryz.ntmps135
  go_wp2
  all_goals (go_ret; refine ⟨ret_int ?_, rfl⟩)
  all_goals simp only [len8_at]
  · rw [← len_e24 x.toNat (by omega) (by omega), show (x / 65536 / 256).toNat = x.toNat / 16777216 by omega]
  · rw [← len_e16 x.toNat (by omega) (by omega), show (x / 65536).toNat = x.toNat / 65536 by omega]
  · rw [← len_e8 x.toNat (by omega) (by omega), show (x / 256).toNat = x.toNat / 256 by omega]
  · have := len_e0 x.toNat (by omega); simpa using this
theorem bits_len32 (x : Nat) (hx : x < 4294967296) (w : World) : Calls Tryz.prog 135 #[.int .u32 (x : Int)] w (fun e w' => e = .returned (.int .i64 (Lib.bitLen x)) ∧ w = w') := by
  have := bits_len32' (x : Int) w (by omega) (by omega)
  rwa [Int.toNat_natCast] at this
set_option maxRecDepth 100000 in
set_option maxHeartbeats 600000 in
theorem Bbitlen_zero (x : Nat) (w : World) (hx : IntB w x 0) : Calls Tryz.prog 101 #[.pointer (some ⟨x, 0, none⟩)] w (fun e w' => e = .returned (.int .i64 0) ∧ Within w w') := by
  obtain ⟨A, c, c0, c1, _⟩ := hx.rd
  rw [show (dg (0 : Int).natAbs) = [] from dg_zero] at c1
  clear hx
  go_enter Tryz.func101, Tryz.ntmps101
  go_wp2
  go_ret
  exact ⟨rfl, Within.refl _⟩
set_option maxRecDepth 100000 in
set_option maxHeartbeats 600000 in
theorem Bbitlen_pos (x k t gm c L : Nat) (hk : k ≤ 1000000) (hL : L ≤ 32) (w : World) (c1 : w.cell? ⟨x, 1, none⟩ = some (.slice (some ⟨gm, 0, none⟩) (k + 1) c)) (ct : w.cell? ⟨gm, k, none⟩ = some (.int .u32 (t : Int))) (LN : Hid (∀ w, Calls Tryz.prog 135 #[.int .u32 (t : Int)] w (fun e w' => e = .returned (.int .i64 (L : Int)) ∧ w = w'))) : Calls Tryz.prog 101 #[.pointer (some ⟨x, 0, none⟩)] w (fun e w' => e = .returned (.int .i64 (32 * (k : Int) + (L : Int))) ∧ Within w w') := by
  have e1 : IntKind.i64.wrap (k : Int) = (k : Int) := by rw [IntKind.wrap_i64]; omega
  have e2 : IntKind.i64.wrap (32 * (k : Int)) = 32 * (k : Int) := by rw [IntKind.wrap_i64]; omega
  have e3 : IntKind.i64.wrap (32 * (k : Int) + (L : Int)) = 32 * (k : Int) + (L : Int) := by rw [IntKind.wrap_i64]; omega
  have e4 : (k : Int) < (k : Int) + 1 := by omega
  go_enter Tryz.func101, Tryz.ntmps101
  go_wp2
  refine wp_region_sched (fun W => W.cell? ⟨x, 1, none⟩ = some (.slice (some ⟨gm, 0, none⟩) (k + 1) c) ∧ W.cell? ⟨gm, k, none⟩ = some (.int .u32 (t : Int))) 20 [(0, true), (1, true), (2, true), (3, true), (4, true), (5, true), (6, true), (7, true), (8, true), (9, true), (10, true), (11, true), (12, true), (13, true), (14, true), (15, true), (16, true), (17, true), (18, true), (19, false), (20, false), (21, false)] (by kernel_rfl) (by kernel_rfl) ⟨c1, ct⟩ ?_
  intro hS
  repeat
    apply sched_firm rfl rfl hS
    · intro wq hq
      have hq0 := hq.1; have hq1 := hq.2
      clear hq
      go_simp
      first | rfl | (trace_state; fail)
    try simp only [Act.put, List.setIfInBounds_toArray, List.set_cons_zero, List.set_cons_succ]
  refine sched_one rfl rfl (fun K hK => ?_)
  go_simp
  refine (LN.out w.drew).mono ?_
  rintro e1 w2 ⟨rfl, rfl⟩
  refine hK _ _ (fun h => ⟨c1, ct⟩) ?_
  clear hK K
  try simp only [Act.put, List.setIfInBounds_toArray, List.set_cons_zero, List.set_cons_succ]
  refine sched_one rfl rfl (fun K hK => ?_)
  go_simp
  refine hK _ _ (fun h => absurd h (by decide)) ?_
  clear hK K
  try simp only [Act.put, List.setIfInBounds_toArray, List.set_cons_zero, List.set_cons_succ]
  refine sched_one rfl rfl (fun K hK => ?_)
  go_simp
  refine hK _ _ (fun h => absurd h (by decide)) ?_
  clear hK K
  try simp only [Act.put, List.setIfInBounds_toArray, List.set_cons_zero, List.set_cons_succ]
  refine sched_nil ?_
  go_wp2
  go_ret
  exact ⟨rfl, (Within.refl w).drew⟩
theorem Bbitlen (x : Nat) (v : Int) (hv : (dg v.natAbs).length ≤ 1000000) (w : World) (hx : IntB w x v) : Calls Tryz.prog 101 #[.pointer (some ⟨x, 0, none⟩)] w (fun e w' => e = .returned (.int .i64 (blen v.natAbs : Nat)) ∧ Within w w') := by
  by_cases h : v = 0
  · subst h; exact Bbitlen_zero x w hx
  · obtain ⟨A, c, c0, c1, hr⟩ := hx.rd
    obtain ⟨k, hk⟩ : ∃ k, (dg v.natAbs).length = k + 1 := ⟨_, (Nat.succ_pred_eq_of_pos (dg_len_pos (by omega))).symm⟩
    obtain ⟨g, rfl, _, ct⟩ := hr.cell (i := k) (by omega)
    obtain ⟨hb, h0, hlt⟩ := blen_top hk
    have hL : Lib.bitLen ((dg v.natAbs).getD k 0) ≤ 32 := by
      rw [bitLen_log2 _ h0 (by omega)]
      have := (Nat.log2_lt h0 (k := 32)).2 hlt
      omega
    rw [hk] at c1
    refine (Bbitlen_pos x k _ g c _ (by omega) hL w c1 ct (Lib.hid fun w => bits_len32 _ hlt w)).mono fun e w' h => ⟨h.1.trans (ret_int ?_), h.2⟩
    rw [hb]; omega
end Go.Proofs.YtjmaggfddinbkaaGreatDoor
end
