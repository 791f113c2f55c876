/- Package binnacleref00, whole numbers: sums of magnitudes: walks. -/
import Derived.Test.YtifgngmebnjfkaaDoorBg1
namespace Go.Proofs.YtifgngmebnjfkaaDoor
open Go.RowKit

theorem Tryd.infoU32 : (Tryd.prog.info? 22).map (fun i => (i.zero, i.size, i.bytes)) = some (some (.int .u32 0), 1, 4) := by kernel_rfl
theorem RowAt.cut {w : World} {A : Option Addr} {l : List Nat} (hr : RowAt w A l) (hw : Words l) : RowAt w A (dg (wval l)) := by
  intro hpos
  obtain ⟨j, hj, h1, h2⟩ := lastWord l
  have hjj := dg_cut l hw j hj h1 h2
  rw [← hjj] at hpos ⊢
  exact hr.take j hpos
theorem retW_cut {W w : World} {A : Option Addr} {l : List Nat} {c n : Nat} (hr : RowAt w A l) (hw : Words l) (hc : l.length ≤ c) (hW : Within W w) (hn : wval l = n) : RetW W n (.returned (.slice A (dg (wval l)).length c)) w := by
  subst hn
  exact ⟨A, c, rfl, Nat.le_trans (dg_len_le (wval_lt l hw)) hc, hr.cut hw, hW⟩

/-- the sum's loop at its head -/
def PlusRel (W : World) (g : Nat) (la lb : List Nat) (cv iv : Value) (wr : World) : Prop :=
  ∃ (k c : Nat) (o : List Nat), k ≤ la.length ∧ c ≤ 1 ∧ cv = .int .u64 (c : Int) ∧ iv = .int .i64 (k : Int) ∧ o.length = la.length + 1 ∧ Words o ∧ OwnW wr g o ∧ lo o k + 4294967296 ^ k * c = lo la k + lo lb k ∧ Within W wr

theorem PlusRel.step {W wr : World} {g : Nat} {la lb o : List Nat} {k c x y : Nat} (u v q : Int) (hk : k < la.length) (hc : c ≤ 1) (ho : o.length = la.length + 1) (hwo : Words o) (hown : OwnW wr g o) (hval : lo o k + 4294967296 ^ k * c = lo la k + lo lb k) (hin : Within W wr)
    (hx : x = la.getD k 0) (hy : y = lb.getD k 0) (hx2 : x < 4294967296) (hy2 : y < 4294967296) (hg : W.heap.size ≤ g) (hu : u = (((x + c + y) / 4294967296 : Nat) : Int)) (hv : v = (((x + c + y) % 4294967296 : Nat) : Int)) (hq : q = ((k + 1 : Nat) : Int)) :
    PlusRel W g la lb (.int .u64 u) (.int .i64 q) (wr.setCell ⟨g, k, none⟩ (.int .u32 v)) := by
  subst hu hv hq
  refine ⟨k + 1, (x + c + y) / 4294967296, o.set k ((x + c + y) % 4294967296), by omega, by omega, rfl, rfl, by rw [List.length_set]; exact ho, hwo.set _ _ (by omega), hown.set _ _ (by omega), ?_, hin.setCell hg _⟩
  rw [lo_set_succ _ _ _ (by omega), lo_succ la, lo_succ lb, ← hx, ← hy, Nat.pow_succ]
  have := plus_step (P := 4294967296 ^ k) (a := x) (b := y) hval
  omega

set_option maxRecDepth 100000 in
set_option maxHeartbeats 600000 in
theorem Bplus_ge (la lb : List Nat) (A Bv : Option Addr) (ca cb : Nat) (hwa : Words la) (hwb : Words lb) (hla : la.length ≤ 1500000) (hge : lb.length ≤ la.length) (w : World) (hra : RowAt w A la) (hrb : RowAt w Bv lb) :
    Calls Tryd.prog 121 #[.slice A la.length ca, .slice Bv lb.length cb] w (RetW w (wval la + wval lb)) := by
  have hmk := run_make_row' (P := Tryd.prog) 89 22 (.int .u32 0) 4 (by kernel_rfl) Tryd.infoU32 rfl .i64 .i64 (la.length + 1) (by omega) (by omega)
  rw [show ((la.length + 1 : Nat) : Int) = (la.length : Int) + 1 by omega] at hmk
  have d1 : decide (la.length < lb.length) = false := decide_eq_false (by omega)
  have HWA := Lib.hid hwa; have HWB := Lib.hid hwb; have HRA := Lib.hid hra; have HRB := Lib.hid hrb; clear hwa hwb hra hrb
  have HGE := Lib.hid hge; clear hge
  have HM := OwnW.made w (la.length + 1)
  go_enter Tryd.func121, Tryd.ntmps121
  go_wp2
  go_loopw [7, 8] (fun cv iv wr => PlusRel w w.heap.size la lb cv iv wr) (fun _ iv _ => la.length - (intOf iv).toNat)
  case atStart => exact ⟨0, 0, _, Nat.zero_le _, Nat.zero_le _, rfl, rfl, by simp, Words.zeros _, HM, by simp [lo_zero], (Within.refl w).alloc _⟩
  case round =>
    obtain ⟨k, c, o, hk, hc, rfl, rfl, ho, hwo, hown, hval, hin⟩ := hrel
    have HV := Lib.hid hval; have HO := Lib.hid ho; have HWO := Lib.hid hwo; clear hval ho hwo
    rcases Nat.lt_or_ge k la.length with hlt | hlt
    · obtain ⟨ga, rfl, hga, hca⟩ := (HRA.out.of hin).cell hlt
      obtain ⟨x, hxe⟩ : ∃ x, x = la.getD k 0 := ⟨_, rfl⟩
      have hx : x < 4294967296 := by rw [hxe]; exact HWA.out.getD k
      rw [← hxe] at hca
      have HXE := Lib.hid hxe; clear hxe
      have hco := hown.cell (i := k) (by rw [HO.out]; omega)
      have hfo := hown.frozen k
      rcases Nat.lt_or_ge k lb.length with hlb | hlb
      · obtain ⟨gb, rfl, hgb, hcb⟩ := (HRB.out.of hin).cell hlb
        obtain ⟨y, hye⟩ : ∃ y, y = lb.getD k 0 := ⟨_, rfl⟩
        have hy : y < 4294967296 := by rw [hye]; exact HWB.out.getD k
        rw [← hye] at hcb
        have HYE := Lib.hid hye; clear hye
        go_wp2
        go_roundw
        case rel => exact PlusRel.step (x := x) (y := y) _ _ _ hlt hc HO.out HWO.out hown HV.out hin HXE.out HYE.out hx hy (Nat.le_refl _) (by omega) (by omega) (by omega)
        case measure => simp [intOf]; omega
      · have hy0 : 0 = lb.getD k 0 := by simp [List.getD_eq_getElem?_getD, hlb]
        have HY0 := Lib.hid hy0; clear hy0
        go_wp2
        go_roundw
        case rel => exact PlusRel.step (x := x) (y := 0) _ _ _ hlt hc HO.out HWO.out hown HV.out hin HXE.out HY0.out hx (by decide) (Nat.le_refl _) (by omega) (by omega) (by omega)
        case measure => simp [intOf]; omega
    · obtain rfl : k = la.length := by omega
      have hco := hown.cell (i := la.length) (by rw [HO.out]; omega)
      have hfo := hown.frozen la.length
      have hsz := HO.out
      have hown2 := hown.set la.length c (by omega)
      have HL : Hid ((o.set la.length c).length = la.length + 1) := by rw [List.length_set]; exact hsz
      have CT := Lib.hid (Bcut (o.set la.length c) (some ⟨w.heap.size, 0, none⟩) (la.length + 1) (HWO.out.set _ _ (by omega)) (by rw [HL.out]; exact Nat.le_refl _) (by rw [HL.out]; omega) _ hown2.at)
      rw [HL.out] at CT
      clear hsz hown2
      go_wp2_with fail
      refine (CT.out).mono ?_; rintro e1 w1 ⟨rfl, rfl⟩
      go_wp2
      go_ret
      refine retW_cut (hown.set la.length c (by rw [HO.out]; omega)).at (HWO.out.set _ _ (by omega)) (by rw [HL.out]; exact Nat.le_refl _) (hin.setCell (Nat.le_refl _) _) ?_
      rw [← lo_all (o.set la.length c) (Nat.le_of_eq HL.out), lo_set_succ _ _ _ (by rw [HO.out]; omega), HV.out, lo_all _ (Nat.le_refl _), lo_all _ HGE.out]

set_option maxRecDepth 100000 in
set_option maxHeartbeats 600000 in
theorem Bplus_lt (lb la : List Nat) (Bv A : Option Addr) (cb ca : Nat) (hwa : Words lb) (hwb : Words la) (hla : lb.length ≤ 1500000) (hgt : la.length < lb.length) (w : World) (hra : RowAt w Bv lb) (hrb : RowAt w A la) :
    Calls Tryd.prog 121 #[.slice A la.length ca, .slice Bv lb.length cb] w (RetW w (wval lb + wval la)) := by
  have hmk := run_make_row' (P := Tryd.prog) 89 22 (.int .u32 0) 4 (by kernel_rfl) Tryd.infoU32 rfl .i64 .i64 (lb.length + 1) (by omega) (by omega)
  rw [show ((lb.length + 1 : Nat) : Int) = (lb.length : Int) + 1 by omega] at hmk
  have d1 : decide (la.length < lb.length) = true := decide_eq_true (by omega)
  have HWA := Lib.hid hwa; have HWB := Lib.hid hwb; have HRA := Lib.hid hra; have HRB := Lib.hid hrb; clear hwa hwb hra hrb
  have HGE := Lib.hid (Nat.le_of_lt hgt); clear hgt
  have HM := OwnW.made w (lb.length + 1)
  go_enter Tryd.func121, Tryd.ntmps121
  go_wp2
  go_loopw [7, 8] (fun cv iv wr => PlusRel w w.heap.size lb la cv iv wr) (fun _ iv _ => lb.length - (intOf iv).toNat)
  case atStart => exact ⟨0, 0, _, Nat.zero_le _, Nat.zero_le _, rfl, rfl, by simp, Words.zeros _, HM, by simp [lo_zero], (Within.refl w).alloc _⟩
  case round =>
    obtain ⟨k, c, o, hk, hc, rfl, rfl, ho, hwo, hown, hval, hin⟩ := hrel
    have HV := Lib.hid hval; have HO := Lib.hid ho; have HWO := Lib.hid hwo; clear hval ho hwo
    rcases Nat.lt_or_ge k lb.length with hlt | hlt
    · obtain ⟨ga, rfl, hga, hca⟩ := (HRA.out.of hin).cell hlt
      obtain ⟨x, hxe⟩ : ∃ x, x = lb.getD k 0 := ⟨_, rfl⟩
      have hx : x < 4294967296 := by rw [hxe]; exact HWA.out.getD k
      rw [← hxe] at hca
      have HXE := Lib.hid hxe; clear hxe
      have hco := hown.cell (i := k) (by rw [HO.out]; omega)
      have hfo := hown.frozen k
      rcases Nat.lt_or_ge k la.length with hlb | hlb
      · obtain ⟨gb, rfl, hgb, hcb⟩ := (HRB.out.of hin).cell hlb
        obtain ⟨y, hye⟩ : ∃ y, y = la.getD k 0 := ⟨_, rfl⟩
        have hy : y < 4294967296 := by rw [hye]; exact HWB.out.getD k
        rw [← hye] at hcb
        have HYE := Lib.hid hye; clear hye
        go_wp2
        go_roundw
        case rel => exact PlusRel.step (x := x) (y := y) _ _ _ hlt hc HO.out HWO.out hown HV.out hin HXE.out HYE.out hx hy (Nat.le_refl _) (by omega) (by omega) (by omega)
        case measure => simp [intOf]; omega
      · have hy0 : 0 = la.getD k 0 := by simp [List.getD_eq_getElem?_getD, hlb]
        have HY0 := Lib.hid hy0; clear hy0
        go_wp2
        go_roundw
        case rel => exact PlusRel.step (x := x) (y := 0) _ _ _ hlt hc HO.out HWO.out hown HV.out hin HXE.out HY0.out hx (by decide) (Nat.le_refl _) (by omega) (by omega) (by omega)
        case measure => simp [intOf]; omega
    · obtain rfl : k = lb.length := by omega
      have hco := hown.cell (i := lb.length) (by rw [HO.out]; omega)
      have hfo := hown.frozen lb.length
      have hsz := HO.out
      have hown2 := hown.set lb.length c (by omega)
      have HL : Hid ((o.set lb.length c).length = lb.length + 1) := by rw [List.length_set]; exact hsz
      have CT := Lib.hid (Bcut (o.set lb.length c) (some ⟨w.heap.size, 0, none⟩) (lb.length + 1) (HWO.out.set _ _ (by omega)) (by rw [HL.out]; exact Nat.le_refl _) (by rw [HL.out]; omega) _ hown2.at)
      rw [HL.out] at CT
      clear hsz hown2
      go_wp2_with fail
      refine (CT.out).mono ?_; rintro e1 w1 ⟨rfl, rfl⟩
      go_wp2
      go_ret
      refine retW_cut (hown.set lb.length c (by rw [HO.out]; omega)).at (HWO.out.set _ _ (by omega)) (by rw [HL.out]; exact Nat.le_refl _) (hin.setCell (Nat.le_refl _) _) ?_
      rw [← lo_all (o.set lb.length c) (Nat.le_of_eq HL.out), lo_set_succ _ _ _ (by rw [HO.out]; omega), HV.out, lo_all _ (Nat.le_refl _), lo_all _ HGE.out]

theorem Bplus (a b : Nat) (A Bv : Option Addr) (ca cb : Nat) (ha : (dg a).length ≤ 1500000) (hb : (dg b).length ≤ 1500000) (w : World) (hra : RowAt w A (dg a)) (hrb : RowAt w Bv (dg b)) :
    Calls Tryd.prog 121 #[.slice A (dg a).length ca, .slice Bv (dg b).length cb] w (RetW w (a + b)) := by
  rcases Nat.lt_or_ge (dg a).length (dg b).length with h | h
  · have := Bplus_lt (dg b) (dg a) Bv A cb ca (words_dg b) (words_dg a) hb h w hrb hra
    rw [wval_dg, wval_dg, Nat.add_comm] at this
    exact this
  · have := Bplus_ge (dg a) (dg b) A Bv ca cb (words_dg a) (words_dg b) ha h w hra hrb
    rw [wval_dg, wval_dg] at this
    exact this
end Go.Proofs.YtifgngmebnjfkaaDoor
