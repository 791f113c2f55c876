/- Package binnacleref00, whole numbers: magnitudes shifted: walks. -/
import Derived.Test.YtifgngmebnjfkaaDoorBg2
namespace Go.Proofs.YtifgngmebnjfkaaDoor
open Go.RowKit

theorem repl_getD (n j : Nat) : (List.replicate n 0).getD j 0 = 0 := by
  rw [List.getD_eq_getElem?_getD, List.getElem?_replicate]
  by_cases h : j < n
  · rw [if_pos h]; rfl
  · rw [if_neg h]; rfl
def LeftRel (W : World) (g : Nat) (la : List Nat) (W0 S0 : Nat) (iv : Value) (wr : World) : Prop :=
  ∃ (k : Nat) (o : List Nat), k ≤ la.length ∧ iv = .int .i64 (k : Int) ∧ o.length = W0 + la.length + 1 ∧ Words o ∧ OwnW wr g o ∧ lo o (W0 + k + 1) = lo la k * 2 ^ S0 * 4294967296 ^ W0 ∧ o.getD (W0 + k) 0 < 2 ^ S0 ∧ (∀ j, W0 + k < j → o.getD j 0 = 0) ∧ Within W wr

theorem low_lt {x S0 z : Nat} (hS : S0 < 32) (hz : z < 2 ^ S0) : z + x * 2 ^ S0 % 4294967296 < 4294967296 := by
  rw [left_low hS]
  have h1 : x % 2 ^ (32 - S0) < 2 ^ (32 - S0) := Nat.mod_lt _ (Nat.two_pow_pos _)
  have h2 : (x % 2 ^ (32 - S0) + 1) * 2 ^ S0 ≤ 2 ^ (32 - S0) * 2 ^ S0 := Nat.mul_le_mul_right _ h1
  rw [← Nat.pow_add, show 32 - S0 + S0 = 32 by omega, Nat.add_mul] at h2
  omega
theorem low_or {x S0 z : Nat} (hS : S0 < 32) (hz : z < 2 ^ S0) : bits .or .u32 (z : Int) ((x * 2 ^ S0 % 4294967296 : Nat) : Int) = ((z + x * 2 ^ S0 % 4294967296 : Nat) : Int) := by
  have h1 := low_lt (x := x) hS hz
  rw [u32_or_nat _ _ (by omega) (by omega), Nat.or_comm, nat_join S0 _ _ (by rw [left_low hS, Nat.mul_mod_left]) hz, Nat.add_comm]

theorem LeftRel.step {W wr : World} {g : Nat} {la o : List Nat} {W0 S0 k x z : Nat} (u v q : Int) (hk : k < la.length) (hS : S0 < 32) (ho : o.length = W0 + la.length + 1) (hwo : Words o) (hown : OwnW wr g o)
    (hval : lo o (W0 + k + 1) = lo la k * 2 ^ S0 * 4294967296 ^ W0) (hlow : z < 2 ^ S0) (hzero : ∀ j, W0 + k < j → o.getD j 0 = 0) (hin : Within W wr)
    (hx : x = la.getD k 0) (hz : z = o.getD (W0 + k) 0) (hx2 : x < 4294967296) (hg : W.heap.size ≤ g) (hu : u = ((z + x * 2 ^ S0 % 4294967296 : Nat) : Int)) (hv : v = ((x * 2 ^ S0 / 4294967296 : Nat) : Int)) (hq : q = ((k + 1 : Nat) : Int)) :
    LeftRel W g la W0 S0 (.int .i64 q) ((wr.setCell ⟨g, W0 + k, none⟩ (.int .u32 u)).setCell ⟨g, W0 + k + 1, none⟩ (.int .u32 v)) := by
  subst hu hv hq
  have hh := left_high (m := x) (s := S0) hx2
  have h32 : 2 ^ S0 ≤ 4294967296 := by rw [show (4294967296 : Nat) = 2 ^ 32 from rfl]; exact Nat.pow_le_pow_right (by decide) (by omega)
  have hl := low_lt (x := x) hS hlow
  generalize hL : x * 2 ^ S0 % 4294967296 = L at *
  generalize hH : x * 2 ^ S0 / 4294967296 = H at *
  have ho1 : (o.set (W0 + k) (z + L)).length = W0 + la.length + 1 := by rw [List.length_set]; exact ho
  refine ⟨k + 1, (o.set (W0 + k) (z + L)).set (W0 + k + 1) H, by omega, rfl, by rw [List.length_set]; exact ho1, (hwo.set _ _ hl).set _ _ (by omega), (hown.set _ _ (by omega)).set _ _ (by omega), ?_, ?_, ?_, (hin.setCell hg _).setCell hg _⟩
  · rw [show W0 + (k + 1) + 1 = W0 + k + 1 + 1 by omega, lo_set_succ _ _ _ (by omega), lo_set_succ _ _ _ (by omega), lo_succ la, ← hx]
    rw [lo_succ, ← hz] at hval
    have := left_step (P := 4294967296 ^ (W0 + k)) (t := x * 2 ^ S0) hval
    rw [hL, hH] at this
    rw [Nat.pow_succ, this, Nat.add_mul, Nat.add_mul, Nat.pow_add]
    congr 1
    rw [Nat.mul_comm (4294967296 ^ W0), Nat.mul_assoc, Nat.mul_assoc, Nat.mul_assoc, Nat.mul_comm (4294967296 ^ W0), Nat.mul_assoc]
  · rw [show W0 + (k + 1) = W0 + k + 1 by omega, getD_set_eq _ _ _ (by omega)]; exact hh
  · intro j hj
    rw [getD_set_ne _ _ _ _ (by omega), getD_set_ne _ _ _ _ (by omega)]
    exact hzero j (by omega)

set_option maxRecDepth 100000 in
set_option maxHeartbeats 600000 in
theorem Bleft_pos (la : List Nat) (A : Option Addr) (ca n W0 S0 : Nat) (hwa : Words la) (hla : la.length ≤ 500000) (h0 : 0 < la.length) (hn : n = 32 * W0 + S0) (hS : S0 < 32) (hW : W0 ≤ 500000) (w : World) (hra : RowAt w A la) :
    Calls Tryd.prog 120 #[.slice A la.length ca, .int .u64 (n : Int)] w (RetW w (wval la * 2 ^ n)) := by
  have hmk := run_make_row' (P := Tryd.prog) 89 22 (.int .u32 0) 4 (by kernel_rfl) Tryd.infoU32 rfl .i64 .i64 (W0 + la.length + 1) (by omega) (by omega)
  rw [show ((W0 + la.length + 1 : Nat) : Int) = (W0 : Int) + (la.length : Int) + 1 by omega] at hmk
  have HWA := Lib.hid hwa; have HRA := Lib.hid hra; clear hwa hra
  have hq : (n : Int) / 32 = (W0 : Int) := by omega
  have hr : (n : Int) % 32 = (S0 : Int) := by omega
  have d0 : ((la.length : Int) == 0) = false := beq_eq_false_iff_ne.2 (by omega)
  have HN := Lib.hid hn; clear hn
  have HM := OwnW.made w (W0 + la.length + 1)
  go_enter Tryd.func120, Tryd.ntmps120
  go_wp2
  go_loopw [8] (fun iv wr => LeftRel w w.heap.size la W0 S0 iv wr) (fun iv _ => la.length - (intOf iv).toNat)
  case atStart => exact ⟨0, _, Nat.zero_le _, rfl, by simp, Words.zeros _, HM, by
    rw [lo_zero, lo]
    rw [show (List.replicate (W0 + la.length + 1) 0).take (W0 + 0 + 1) = List.replicate (W0 + 0 + 1) 0 by rw [List.take_replicate]; congr 1; omega, wval_zeros]; simp, by
    rw [repl_getD]; exact Nat.two_pow_pos _, fun j _ => repl_getD _ _, (Within.refl w).alloc _⟩
  case round =>
    obtain ⟨k, o, hk, rfl, ho, hwo, hown, hval, hlow, hzero, hin⟩ := hrel
    have HV := Lib.hid hval; have HO := Lib.hid ho; have HWO := Lib.hid hwo; have HZ := Lib.hid hzero; clear hval ho hwo hzero
    rcases Nat.lt_or_ge k la.length with hlt | hlt
    · obtain ⟨ga, rfl, hga, hca⟩ := (HRA.out.of hin).cell hlt
      obtain ⟨x, hxe⟩ : ∃ x, x = la.getD k 0 := ⟨_, rfl⟩
      have hx : x < 4294967296 := by rw [hxe]; exact HWA.out.getD k
      rw [← hxe] at hca
      have HXE := Lib.hid hxe; clear hxe
      obtain ⟨z, hze⟩ : ∃ z, z = o.getD (W0 + k) 0 := ⟨_, rfl⟩
      have hco := hown.cell (i := W0 + k) (by rw [HO.out]; omega)
      have hfo := hown.frozen (W0 + k)
      have hco1 := hown.cell (i := W0 + k + 1) (by rw [HO.out]; omega)
      have hfo1 := hown.frozen (W0 + k + 1)
      rw [← hze] at hco hlow
      have HZE := Lib.hid hze; clear hze
      have gsh : IntKind.u64.wrap ((x : Int) * 2 ^ S0) = ((x * 2 ^ S0 : Nat) : Int) := by
        have e : (x : Int) * 2 ^ S0 = ((x * 2 ^ S0 : Nat) : Int) := by simp
        have := left_high (m := x) (s := S0) hx
        have h32 : 2 ^ S0 ≤ 4294967296 := by rw [show (4294967296 : Nat) = 2 ^ 32 from rfl]; exact Nat.pow_le_pow_right (by decide) (by omega)
        rw [e, IntKind.wrap_u64]; omega
      have gor := low_or (x := x) hS hlow
      have hH : x * 2 ^ S0 / 4294967296 < 4294967296 := by
        have := left_high (m := x) (s := S0) hx
        have h32 : 2 ^ S0 ≤ 4294967296 := by rw [show (4294967296 : Nat) = 2 ^ 32 from rfl]; exact Nat.pow_le_pow_right (by decide) (by omega)
        omega
      have hstep := fun (u v q : Int) => LeftRel.step (S0 := S0) (x := x) (z := z) u v q hlt hS HO.out HWO.out hown HV.out hlow HZ.out hin HXE.out HZE.out hx (Nat.le_refl _)
      have HST := Lib.hid hstep; clear hstep
      obtain ⟨t, ht⟩ : ∃ t, t = x * 2 ^ S0 := ⟨_, rfl⟩
      rw [← ht] at gsh gor hH
      rw [Int.natCast_emod] at gor
      have HT := Lib.hid ht; clear ht
      have g3 : (t : Int) / 4294967296 % 4294967296 = ((t / 4294967296 : Nat) : Int) := by omega
      go_wp2
      go_roundw
      case rel => exact HST.out _ _ _ (by rw [← HT.out]; first | rfl | exact gor) (by rw [← HT.out]; first | rfl | exact g3) (by omega)
      case measure => simp [intOf]; omega
    · obtain rfl : k = la.length := by omega
      have CT := Lib.hid (Bcut o (some ⟨w.heap.size, 0, none⟩) (W0 + la.length + 1) HWO.out (by rw [HO.out]; exact Nat.le_refl _) (by rw [HO.out]; omega) _ hown.at)
      rw [HO.out] at CT
      go_wp2_with fail
      refine (CT.out).mono ?_; rintro e1 w1 ⟨rfl, rfl⟩
      go_wp2
      go_ret
      refine retW_cut hown.at HWO.out (by rw [HO.out]; exact Nat.le_refl _) hin ?_
      rw [← lo_all o (Nat.le_of_eq HO.out), HV.out, lo_all _ (Nat.le_refl _), HN.out, Nat.mul_assoc, show (4294967296 : Nat) = 2 ^ 32 from rfl, ← Nat.pow_mul, ← Nat.pow_add, Nat.add_comm S0]
set_option maxRecDepth 100000 in
set_option maxHeartbeats 600000 in
theorem Bleft_nil (A : Option Addr) (ca n : Nat) (w : World) : Calls Tryd.prog 120 #[.slice A 0 ca, .int .u64 (n : Int)] w (RetW w 0) := by
  go_enter Tryd.func120, Tryd.ntmps120
  go_wp2
  go_ret
  exact ⟨none, 0, by rw [dg_zero]; rfl, by rw [dg_zero]; exact Nat.le_refl _, by rw [dg_zero]; exact RowAt.nil, Within.refl _⟩
theorem Bleft (a : Nat) (A : Option Addr) (ca n : Nat) (ha : (dg a).length ≤ 500000) (hn : n ≤ 16000000) (w : World) (hra : RowAt w A (dg a)) :
    Calls Tryd.prog 120 #[.slice A (dg a).length ca, .int .u64 (n : Int)] w (RetW w (a * 2 ^ n)) := by
  by_cases h : a = 0
  · subst h
    rw [dg_zero, Nat.zero_mul]
    exact Bleft_nil A ca n w
  · have := Bleft_pos (dg a) A ca n (n / 32) (n % 32) (words_dg a) ha (dg_len_pos h) (by omega) (by omega) (by omega) w hra
    rw [wval_dg] at this
    exact this
end Go.Proofs.YtifgngmebnjfkaaDoor
