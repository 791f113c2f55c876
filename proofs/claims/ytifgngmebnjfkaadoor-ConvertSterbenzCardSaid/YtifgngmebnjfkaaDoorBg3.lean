/- Package binnacleref00, whole numbers: differences of magnitudes: walks. -/
import Derived.Test.YtifgngmebnjfkaaDoorBg2
namespace Go.Proofs.YtifgngmebnjfkaaDoor
open Go.RowKit

/-- the difference's loop at its head -/
def MinusRel (W : World) (g : Nat) (la lb : List Nat) (cv iv : Value) (wr : World) : Prop :=
  ∃ (k c : Nat) (o : List Nat), k ≤ la.length ∧ c ≤ 1 ∧ cv = .int .u64 (c : Int) ∧ iv = .int .i64 (k : Int) ∧ o.length = la.length ∧ Words o ∧ OwnW wr g o ∧ lo o k + lo lb k = lo la k + 4294967296 ^ k * c ∧ Within W wr

theorem MinusRel.less {W wr : World} {g : Nat} {la lb o : List Nat} {k c x y : Nat} (v q : Int) (hk : k < la.length) (hc : c ≤ 1) (ho : o.length = la.length) (hwo : Words o) (hown : OwnW wr g o) (hval : lo o k + lo lb k = lo la k + 4294967296 ^ k * c) (hin : Within W wr)
    (hx : x = la.getD k 0) (hy : y = lb.getD k 0) (hx2 : x < 4294967296) (hy2 : y < 4294967296) (hg : W.heap.size ≤ g) (hlt : x < c + y) (hv : v = ((x + 4294967296 - (c + y) : Nat) : Int)) (hq : q = ((k + 1 : Nat) : Int)) :
    MinusRel W g la lb (.int .u64 1) (.int .i64 q) (wr.setCell ⟨g, k, none⟩ (.int .u32 v)) := by
  subst hv hq
  refine ⟨k + 1, 1, o.set k (x + 4294967296 - (c + y)), by omega, by omega, rfl, rfl, by rw [List.length_set]; exact ho, hwo.set _ _ (by omega), hown.set _ _ (by omega), ?_, hin.setCell hg _⟩
  rw [lo_set_succ _ _ _ (by omega), lo_succ la, lo_succ lb, ← hx, ← hy, Nat.pow_succ]
  have := minus_less (P := 4294967296 ^ k) (a := x) (b := y) hval (by omega)
  omega
theorem MinusRel.more {W wr : World} {g : Nat} {la lb o : List Nat} {k c x y : Nat} (v q : Int) (hk : k < la.length) (ho : o.length = la.length) (hwo : Words o) (hown : OwnW wr g o) (hval : lo o k + lo lb k = lo la k + 4294967296 ^ k * c) (hin : Within W wr)
    (hx : x = la.getD k 0) (hy : y = lb.getD k 0) (hx2 : x < 4294967296) (hg : W.heap.size ≤ g) (hge : c + y ≤ x) (hv : v = ((x - (c + y) : Nat) : Int)) (hq : q = ((k + 1 : Nat) : Int)) :
    MinusRel W g la lb (.int .u64 0) (.int .i64 q) (wr.setCell ⟨g, k, none⟩ (.int .u32 v)) := by
  subst hv hq
  refine ⟨k + 1, 0, o.set k (x - (c + y)), by omega, by omega, rfl, rfl, by rw [List.length_set]; exact ho, hwo.set _ _ (by omega), hown.set _ _ (by omega), ?_, hin.setCell hg _⟩
  rw [lo_set_succ _ _ _ (by omega), lo_succ la, lo_succ lb, ← hx, ← hy, Nat.pow_succ]
  have := minus_more (P := 4294967296 ^ k) (a := x) (b := y) hval (by omega)
  omega

set_option maxRecDepth 100000 in
set_option maxHeartbeats 600000 in
theorem Bminus0 (la lb : List Nat) (A Bv : Option Addr) (ca cb : Nat) (hwa : Words la) (hwb : Words lb) (hla : la.length ≤ 1500000) (hll : lb.length ≤ la.length) (hge : wval lb ≤ wval la) (w : World) (hra : RowAt w A la) (hrb : RowAt w Bv lb) :
    Calls Tryd.prog 122 #[.slice A la.length ca, .slice Bv lb.length cb] w (RetW w (wval la - wval lb)) := by
  have hmk := run_make_row' (P := Tryd.prog) 89 22 (.int .u32 0) 4 (by kernel_rfl) Tryd.infoU32 rfl .i64 .i64 la.length (by omega) (by omega)
  have HWA := Lib.hid hwa; have HWB := Lib.hid hwb; have HRA := Lib.hid hra; have HRB := Lib.hid hrb; clear hwa hwb hra hrb
  have HGE := Lib.hid hge; have HLL := Lib.hid hll; clear hge hll
  have HM := OwnW.made w la.length
  go_enter Tryd.func122, Tryd.ntmps122
  go_wp2
  go_loopw [6, 7] (fun cv iv wr => MinusRel w w.heap.size la lb cv iv wr) (fun _ iv _ => la.length - (intOf iv).toNat)
  case atStart => exact ⟨0, 0, _, Nat.zero_le _, Nat.zero_le _, rfl, rfl, by simp, Words.zeros _, HM, by simp [lo_zero], (Within.refl w).alloc _⟩
  case round =>
    obtain ⟨k, c, o, hk, hc, rfl, rfl, ho, hwo, hown, hval, hin⟩ := hrel
    have HV := Lib.hid hval; have HO := Lib.hid ho; have HWO := Lib.hid hwo; clear hval ho hwo
    rcases Nat.lt_or_ge k la.length with hlt | hlt
    · obtain ⟨ga, rfl, hga, hca⟩ := (HRA.out.of hin).cell hlt
      obtain ⟨x, hxe⟩ : ∃ x, x = la.getD k 0 := ⟨_, rfl⟩
      have hx : x < 4294967296 := by rw [hxe]; exact HWA.out.getD k
      rw [← hxe] at hca
      have HXE := Lib.hid hxe; clear hxe
      have hco := hown.cell (i := k) (by rw [HO.out]; omega)
      have hfo := hown.frozen k
      rcases Nat.lt_or_ge k lb.length with hlb | hlb
      · obtain ⟨gb, rfl, hgb, hcb⟩ := (HRB.out.of hin).cell hlb
        obtain ⟨y, hye⟩ : ∃ y, y = lb.getD k 0 := ⟨_, rfl⟩
        have hy : y < 4294967296 := by rw [hye]; exact HWB.out.getD k
        rw [← hye] at hcb
        have HYE := Lib.hid hye; clear hye
        rcases Nat.lt_or_ge x (c + y) with hxy | hxy
        · have dx : decide ((x : Int) < c + y) = true := decide_eq_true (by omega)
          go_wp2
          go_roundw
          case rel => exact MinusRel.less (x := x) (y := y) _ _ hlt hc HO.out HWO.out hown HV.out hin HXE.out HYE.out hx hy (Nat.le_refl _) hxy (by omega) (by omega)
          case measure => simp [intOf]; omega
        · have dx : decide ((x : Int) < c + y) = false := decide_eq_false (by omega)
          go_wp2
          go_roundw
          case rel => exact MinusRel.more (x := x) (y := y) _ _ hlt HO.out HWO.out hown HV.out hin HXE.out HYE.out hx (Nat.le_refl _) hxy (by omega) (by omega)
          case measure => simp [intOf]; omega
      · have hy0 : 0 = lb.getD k 0 := by simp [List.getD_eq_getElem?_getD, hlb]
        have HY0 := Lib.hid hy0; clear hy0
        rcases Nat.lt_or_ge x (c) with hxy | hxy
        · have dx : decide ((x : Int) < c) = true := decide_eq_true (by omega)
          go_wp2
          go_roundw
          case rel => exact MinusRel.less (x := x) (y := 0) _ _ hlt hc HO.out HWO.out hown HV.out hin HXE.out HY0.out hx (by decide) (Nat.le_refl _) hxy (by omega) (by omega)
          case measure => simp [intOf]; omega
        · have dx : decide ((x : Int) < c) = false := decide_eq_false (by omega)
          go_wp2
          go_roundw
          case rel => exact MinusRel.more (x := x) (y := 0) _ _ hlt HO.out HWO.out hown HV.out hin HXE.out HY0.out hx (Nat.le_refl _) hxy (by omega) (by omega)
          case measure => simp [intOf]; omega
    · obtain rfl : k = la.length := by omega
      have CT := Lib.hid (Bcut o (some ⟨w.heap.size, 0, none⟩) la.length HWO.out (by rw [HO.out]; exact Nat.le_refl _) (by rw [HO.out]; omega) _ hown.at)
      rw [HO.out] at CT
      go_wp2_with fail
      refine (CT.out).mono ?_; rintro e1 w1 ⟨rfl, rfl⟩
      go_wp2
      go_ret
      refine retW_cut hown.at HWO.out (by rw [HO.out]; exact Nat.le_refl _) hin ?_
      have h1 := HV.out
      have h2 := lo_lt o HWO.out la.length
      rw [lo_all o (Nat.le_of_eq HO.out), lo_all la (Nat.le_refl _), lo_all lb HLL.out] at h1
      rw [lo_all o (Nat.le_of_eq HO.out)] at h2
      exact (minus_end h1 h2 HGE.out).2
theorem Bminus (a b : Nat) (A Bv : Option Addr) (ca cb : Nat) (ha : (dg a).length ≤ 1500000) (hge : b ≤ a) (w : World) (hra : RowAt w A (dg a)) (hrb : RowAt w Bv (dg b)) :
    Calls Tryd.prog 122 #[.slice A (dg a).length ca, .slice Bv (dg b).length cb] w (RetW w (a - b)) := by
  have := Bminus0 (dg a) (dg b) A Bv ca cb (words_dg a) (words_dg b) ha (dg_len_mono hge) (by rw [wval_dg, wval_dg]; exact hge) w hra hrb
  rw [wval_dg, wval_dg] at this
  exact this
end Go.Proofs.YtifgngmebnjfkaaDoor
