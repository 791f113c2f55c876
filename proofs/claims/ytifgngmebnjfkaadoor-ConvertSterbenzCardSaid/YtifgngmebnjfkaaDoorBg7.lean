/- Package binnacleref00, whole numbers: products of magnitudes: walks. -/
import Derived.Test.YtifgngmebnjfkaaDoorBg2
import Derived.Deep.QuietTactic
import Derived.BigQuiet
namespace Go.Proofs.YtifgngmebnjfkaaDoor
open Go.RowKit

def TimesOut (W : World) (g : Nat) (la lb : List Nat) (iv : Value) (wr : World) : Prop :=
  ∃ (i : Nat) (o : List Nat), i ≤ la.length ∧ iv = .int .i64 (i : Int) ∧ o.length = la.length + lb.length ∧ Words o ∧ OwnW wr g o ∧ lo o (i + lb.length) = lo la i * wval lb ∧ Within W wr
def TimesIn (W : World) (g : Nat) (lb o0 : List Nat) (x i : Nat) (cv kv : Value) (wr : World) : Prop :=
  ∃ (k c : Nat) (o : List Nat), k ≤ lb.length ∧ c < 4294967296 ∧ cv = .int .u64 (c : Int) ∧ kv = .int .i64 (k : Int) ∧ o.length = o0.length ∧ Words o ∧ OwnW wr g o ∧ lo o (i + k) + 4294967296 ^ (i + k) * c = lo o0 (i + k) + 4294967296 ^ i * (x * lo lb k) ∧ (∀ j, i + k ≤ j → o.getD j 0 = o0.getD j 0) ∧ Within W wr
theorem TimesIn.step {W wr : World} {g : Nat} {lb o0 o : List Nat} {x i k c y z n : Nat} (u v q : Int) (hn : i + k < o.length) (hk : k < lb.length) (hc : c < 4294967296) (ho : o.length = o0.length) (hwo : Words o) (hown : OwnW wr g o)
    (hval : lo o (i + k) + 4294967296 ^ (i + k) * c = lo o0 (i + k) + 4294967296 ^ i * (x * lo lb k)) (hrest : ∀ j, i + k ≤ j → o.getD j 0 = o0.getD j 0) (hin : Within W wr) (hg : W.heap.size ≤ g)
    (hx : x < 4294967296) (hy : y = lb.getD k 0) (hy2 : y < 4294967296) (hz : z = o.getD (i + k) 0) (hz2 : z < 4294967296) (n' : Nat)
    (hu : u = (((x * y + z + c) / 4294967296 : Nat) : Int)) (hv : v = (((x * y + z + c) % 4294967296 : Nat) : Int)) (hq : q = ((k + 1 : Nat) : Int)) :
    TimesIn W g lb o0 x i (.int .u64 u) (.int .i64 q) ((wr.drewN n).setCell ⟨g, i + k, none⟩ (.int .u32 v)) := by
  subst hu hv hq
  have hm := word_mul hx hy2
  refine ⟨k + 1, (x * y + z + c) / 4294967296, o.set (i + k) ((x * y + z + c) % 4294967296), by omega, by omega, rfl, rfl, by rw [List.length_set]; exact ho, hwo.set _ _ (by omega), OwnW.set (w := wr.drewN n) hown _ _ hn, ?_, ?_, (hin.drewN n).setCell hg _⟩
  · rw [show i + (k + 1) = i + k + 1 by omega, lo_set_succ _ _ _ hn, lo_succ o0, lo_succ lb, ← hy, ← hrest (i + k) (Nat.le_refl _), ← hz, Nat.pow_succ]
    have := times_step (P := 4294967296 ^ (i + k)) (Q := 4294967296 ^ i * (x * (4294967296 ^ k * y))) (x := x) (y := y) (z := z) hval _ rfl (by rw [Nat.pow_add, Nat.mul_assoc]; congr 1; rw [Nat.mul_left_comm])
    rw [Nat.mul_add x, Nat.mul_add]
    exact this
  · intro j hj
    rw [getD_set_ne _ _ _ _ (by omega)]
    exact hrest j (by omega)

set_option maxRecDepth 100000 in
set_option maxHeartbeats 600000 in
theorem Btimes0 (la lb : List Nat) (A Bv : Option Addr) (ca cb : Nat) (hwa : Words la) (hwb : Words lb) (hla : la.length ≤ 700000) (hlb : lb.length ≤ 700000) (w : World) (hra : RowAt w A la) (hrb : RowAt w Bv lb) :
    Calls Tryd.prog 119 #[.slice A la.length ca, .slice Bv lb.length cb] w (RetW w (wval la * wval lb)) := by
  have hmk := run_make_row' (P := Tryd.prog) 89 22 (.int .u32 0) 4 (by kernel_rfl) Tryd.infoU32 rfl .i64 .i64 (la.length + lb.length) (by omega) (by omega)
  rw [show ((la.length + lb.length : Nat) : Int) = (la.length : Int) + (lb.length : Int) by omega] at hmk
  have HWA := Lib.hid hwa; have HWB := Lib.hid hwb; have HRA := Lib.hid hra; have HRB := Lib.hid hrb; clear hwa hwb hra hrb
  have HM := OwnW.made w (la.length + lb.length)
  go_enter Tryd.func119, Tryd.ntmps119
  go_wp2
  go_loopw [6] (fun iv wr => TimesOut w w.heap.size la lb iv wr) (fun iv _ => la.length - (intOf iv).toNat)
  case atStart => exact ⟨0, _, Nat.zero_le _, rfl, by simp, Words.zeros _, HM, by
    rw [lo_zero, lo, show (List.replicate (la.length + lb.length) 0).take (0 + lb.length) = List.replicate (0 + lb.length) 0 by rw [List.take_replicate]; congr 1; omega, wval_zeros]; simp, (Within.refl w).alloc _⟩
  case round =>
    obtain ⟨i, o, hi, rfl, ho, hwo, hown, hval, hin⟩ := hrel
    have HV := Lib.hid hval; have HO := Lib.hid ho; have HWO := Lib.hid hwo; clear hval ho hwo
    rcases Nat.lt_or_ge i la.length with hlt | hlt
    · go_wp2
      obtain ⟨wo, rfl⟩ : ∃ wo : World, wo = wr := ⟨_, rfl⟩
      obtain ⟨x, hxe⟩ : ∃ x, x = la.getD i 0 := ⟨_, rfl⟩
      have hx : x < 4294967296 := by rw [hxe]; exact HWA.out.getD _
      have HXE := Lib.hid hxe; clear hxe
      go_loopw [7, 8] (fun cv kv wr => TimesIn w w.heap.size lb o x i cv kv wr) (fun _ kv _ => lb.length - (intOf kv).toNat)
      case atStart => exact ⟨0, 0, o, Nat.zero_le _, by decide, rfl, rfl, rfl, HWO.out, hown, by simp [lo_zero], fun _ _ => rfl, hin⟩
      case round =>
        obtain ⟨k, c, o1, hk, hc, rfl, rfl, ho1, hwo1, hown1, hval1, hrest, hin1⟩ := hrel
        have HV1 := Lib.hid hval1; have HO1 := Lib.hid (ho1.trans HO.out); have HO2 := Lib.hid ho1; have HWO1 := Lib.hid hwo1; have HR := Lib.hid hrest; clear hval1 ho1 hwo1 hrest
        rcases Nat.lt_or_ge k lb.length with hlk | hlk
        · obtain ⟨ga, rfl, hga, hca⟩ := (HRA.out.of hin1).cell hlt
          rw [← HXE.out] at hca
          obtain ⟨gb, rfl, hgb, hcb⟩ := (HRB.out.of hin1).cell hlk
          obtain ⟨y, hye⟩ : ∃ y, y = lb.getD k 0 := ⟨_, rfl⟩
          have hy : y < 4294967296 := by rw [hye]; exact HWB.out.getD _
          rw [← hye] at hcb
          have HYE := Lib.hid hye; clear hye
          have hco := hown1.cell (i := i + k) (by rw [HO1.out]; omega)
          have hfo := hown1.frozen (i + k)
          obtain ⟨z, hze⟩ : ∃ z, z = o1.getD (i + k) 0 := ⟨_, rfl⟩
          have hz : z < 4294967296 := by rw [hze]; exact HWO1.out.getD _
          rw [← hze] at hco
          have HST := Lib.hid (fun (n : Nat) (u v q : Int) => TimesIn.step (x := x) (y := y) (z := z) (n := n) u v q (by rw [HO1.out]; omega) hlk hc HO2.out HWO1.out hown1 HV1.out HR.out hin1 (Nat.le_refl _) hx HYE.out hy hze hz 0)
          clear hze
          have hm := word_mul hx hy
          obtain ⟨p, hp⟩ : ∃ p, p = x * y := ⟨_, rfl⟩
          have e0 : (x : Int) * y = (p : Int) := by rw [hp]; simp
          rw [← hp] at hm HST
          clear hp
          have e1 : IntKind.u64.wrap (p : Int) = p := by rw [IntKind.wrap_u64]; omega
          have e2 : IntKind.u64.wrap ((p : Int) + z) = (p : Int) + z := by rw [IntKind.wrap_u64]; omega
          have e3 : IntKind.u64.wrap ((p : Int) + z + c) = (p : Int) + z + c := by rw [IntKind.wrap_u64]; omega
          have e4 : IntKind.i64.wrap ((i : Int) + k) = (i : Int) + k := IntWalk.i64_in _ (by omega)
          have e5 : ((i : Int) + k).toNat = i + k := by omega
          have HB := Lib.hid (And.intro hm (And.intro hz hc)); clear hm
          go_wp2
          go_quiet (fail)
          go_wp2
          go_roundw
          case rel => exact HST.out _ _ _ _ (by have := HB.out; omega) (by have := HB.out; omega) (by omega)
          case measure => simp [intOf]; omega
        · obtain rfl : k = lb.length := by omega
          have hco := hown1.cell (i := i + lb.length) (by rw [HO1.out]; omega)
          have hfo := hown1.frozen (i + lb.length)
          have HCC := Lib.hid hc
          go_wp2
          go_roundw
          case rel =>
            refine ⟨i + 1, o1.set (i + lb.length) c, by omega, by go_num, by rw [List.length_set]; exact HO1.out, HWO1.out.set _ _ HCC.out, ?_, ?_, hin1.setCell (Nat.le_refl _) _⟩
            · have := hown1.set (i + lb.length) c (by rw [HO1.out]; omega)
              exact this
            · rw [show i + 1 + lb.length = i + lb.length + 1 by omega, lo_set_succ _ _ _ (by rw [HO1.out]; omega), HV1.out, HV.out, lo_succ la, ← HXE.out, lo_all lb (Nat.le_refl _), Nat.add_mul, Nat.mul_assoc]
          case measure => simp [intOf]; omega
    · obtain rfl : i = la.length := by omega
      have CT := Lib.hid (Bcut o (some ⟨w.heap.size, 0, none⟩) (la.length + lb.length) HWO.out (by rw [HO.out]; exact Nat.le_refl _) (by rw [HO.out]; omega) _ hown.at)
      rw [HO.out] at CT
      go_wp2_with fail
      refine (CT.out).mono ?_; rintro e1 w1 ⟨rfl, rfl⟩
      go_wp2
      go_ret
      refine retW_cut hown.at HWO.out (by rw [HO.out]; exact Nat.le_refl _) hin ?_
      rw [← lo_all o (Nat.le_of_eq HO.out), HV.out, lo_all _ (Nat.le_refl _)]
theorem Btimes (a b : Nat) (A Bv : Option Addr) (ca cb : Nat) (ha : (dg a).length ≤ 700000) (hb : (dg b).length ≤ 700000) (w : World) (hra : RowAt w A (dg a)) (hrb : RowAt w Bv (dg b)) :
    Calls Tryd.prog 119 #[.slice A (dg a).length ca, .slice Bv (dg b).length cb] w (RetW w (a * b)) := by
  have := Btimes0 (dg a) (dg b) A Bv ca cb (words_dg a) (words_dg b) ha hb w hra hrb
  rw [wval_dg, wval_dg] at this
  exact this
end Go.Proofs.YtifgngmebnjfkaaDoor
