/- PacketUnpacks: walk. -/
import Derived.Test.YtmpcnhiklpahnaaDoorPk19
import Derived.Test.YtmpcnhiklpahnaaDoorMem4
namespace Go.Proofs.YtmpcnhiklpahnaaDoor
open Go.RowKit

/-- whatever Unpack takes, Pack makes again -/
theorem Pack_back {b : List Nat} (hb : Bytes b) (h0 : unpackE pf b = 0) (A : Option Addr) (c : Nat) (w : World) (hT : FmS w) (hr : SlAt w A (f64v (rdOf b).vals)) :
    Calls Tryd.prog 12 #[.agg #[.int .i64 ((rdOf b).sensor : Int), .int .u32 ((rdOf b).seq : Int), .int .u32 ((rdOf b).stamp : Int), .slice A (rdOf b).vals.length c]] w fun e w' => ∃ v, e = .returned (.tuple #[v, .int .i64 0]) ∧ OwnB w' w.heap.size v b ∧ Within w w' := by
  have e : rdOf b = readB pf b := by unfold rdOf; rw [if_pos h0]
  rw [e] at hr ⊢
  have h := Pack_fit (readB pf b).sensor (readB pf b).seq (readB pf b).stamp A c (readB pf b).vals (readB_ok pf_ok hb h0) w hT hr
  have e2 : packV pf ⟨(readB pf b).sensor, (readB pf b).seq, (readB pf b).stamp, (readB pf b).vals⟩ = b := packV_readB pf_ok hb h0
  rw [e2] at h
  exact h
theorem withSum_bytes {b : List Nat} (h : Bytes b) : Bytes (withSum b) := by unfold withSum; exact h.append (leBytes_bytes _ _)
/-- two slices of bytes side by side -/
theorem pair_of (w : World) (A B : Option Addr) (c d : Nat) (l m : List Nat) (g : Nat) (hl : Bytes l) (hm : Bytes m) (hlc : l.length ≤ c) (hmd : m.length ≤ d) (hll : l.length ≤ 100004) (hml : m.length ≤ 100004)
    (c0 : w.cell? ⟨g, 0, none⟩ = some (.slice A l.length c)) (c1 : w.cell? ⟨g, 1, none⟩ = some (.slice B m.length d)) (h1 : SlAt w A (u8v l)) (h2 : SlAt w B (u8v m)) :
    ∃ (Af : Nat → Option Addr) (cf : Nat → Nat) (Lf : Nat → List Nat), ∀ i, i < 2 → w.cell? ⟨g, i, none⟩ = some (.slice (Af i) (Lf i).length (cf i)) ∧ SlAt w (Af i) (u8v (Lf i)) ∧ Bytes (Lf i) ∧ (Lf i).length ≤ cf i ∧ (Lf i).length ≤ 100004 := by
  refine ⟨fun i => if i = 0 then A else B, fun i => if i = 0 then c else d, fun i => if i = 0 then l else m, fun i hi => ?_⟩
  by_cases h : i = 0
  · subst h; simp only [if_true]; exact ⟨c0, h1, hl, hlc, hll⟩
  · obtain rfl : i = 1 := by omega
    simp only [if_neg h]; exact ⟨c1, h2, hm, hmd, hml⟩

set_option maxRecDepth 100000 in
set_option maxHeartbeats 1000000 in
theorem unpacks_long (A : Option Addr) (c : Nat) (bl : List Nat) (hb : Bytes bl) (hl : bl.length ≤ 140737488355328) (hlong : 100000 < bl.length) (w : World) (hT : FmS w) (hr : SlAt w A (u8v bl)) : Calls Tryd.prog 4 #[.slice A bl.length c] w fun e w' => e = .returned (.bool true) ∧ Within w w' := by
  have HT := Lib.hid hT; clear hT hr hb hl
  have d1 : decide ((bl.length : Int) > 100000) = true := decide_eq_true (by omega)
  have d2 : (bl.length : Int) > 100000 := by omega
  have d3 : 100000 < bl.length := by omega
  go_enter Tryd.func4, Tryd.ntmps4
  go_wp2_with fail
  refine (awake_true _ (by exact HT.out.of (by repeat (first | with_reducible exact Within.refl _ | with_reducible assumption | with_reducible refine Within.alloc ?_ _ | with_reducible refine Within.drew ?_ | with_reducible refine Within.drewN ?_ _ | with_reducible refine Within.setCell ?_ (by first | (simp; done) | (simp; omega)) _ | with_reducible refine Within.trans ?_ (by assumption))))).mono ?_; rintro e6 w6 ⟨rfl, h6⟩
  go_wp2
  go_ret
  exact ⟨rfl, (by repeat (first | with_reducible exact Within.refl _ | with_reducible assumption | with_reducible refine Within.alloc ?_ _ | with_reducible refine Within.drew ?_ | with_reducible refine Within.drewN ?_ _ | with_reducible refine Within.setCell ?_ (by first | (simp; done) | (simp; omega)) _ | with_reducible refine Within.trans ?_ (by assumption)))⟩

set_option maxRecDepth 100000 in
set_option maxHeartbeats 1000000 in
theorem unpacks_ok (A : Option Addr) (c : Nat) (bl : List Nat) (hb : Bytes bl) (hl : bl.length ≤ 100000) (w : World) (hT : FmS w) (hr : SlAt w A (u8v bl)) : Calls Tryd.prog 4 #[.slice A bl.length c] w fun e w' => e = .returned (.bool true) ∧ Within w w' := by
  have HT := Lib.hid hT; have HR := Lib.hid hr; have HB := Lib.hid hb; clear hT hr hb
  obtain ⟨v1, w1, hrun1, hO1, hB1⟩ := run_app_u8 w w.heap.size (.slice none 0 0) [] bl (OwnB.nil_ _ _) A c HR.out (by simp; omega) (Nat.le_refl _)
  rw [List.nil_append] at hO1
  have hW1 : Within w w1 := hB1
  obtain ⟨A1, c1, rfl, hc1, hs1, _⟩ := hO1.form
  obtain ⟨v2, w2, hrun2, hO2, hB2⟩ := run_app_u8 w1 w1.heap.size (.slice none 0 0) [] bl (OwnB.nil_ _ _) A c (HR.out.of hW1) (by simp; omega) (Nat.le_refl _)
  rw [List.nil_append] at hO2
  have hW2 : Within w1 w2 := hB2
  have hX2 : Within w w2 := hW1.trans hW2
  have SU := Lib.hid (fun (W : World) (h : SlAt W A (u8v bl)) => Rsum_any A c bl HB.out (by omega) W h)
  have hcl := crcOf_lt HB.out
  have PU := Lib.hid (Rput4 w1.heap.size v2 bl (crcOf bl) (by omega) (by omega) w2 hW2.size hO2)
  have HWS := Lib.hid (withSum_bytes HB.out)
  have hwl := withSum_len bl
  have hws : bl ++ leBytes 4 (crcOf bl) = withSum bl := rfl
  rw [hws] at PU
  clear hws
  obtain ⟨ws, hwse⟩ : ∃ ws, ws = withSum bl := ⟨_, rfl⟩
  rw [← hwse] at PU HWS hwl
  clear hwse
  have RUN1 := Lib.hid hrun1; have RUN2 := Lib.hid hrun2; have HS1 := Lib.hid hs1; have HX2 := Lib.hid hX2; have HW2 := Lib.hid hW2; have HW1 := Lib.hid hW1; clear hrun1 hrun2 hs1 hO1 hX2 hW2 hB1 hB2 hW1
  obtain ⟨A2, c2, rfl, _, _, _⟩ := hO2.form
  clear hO2
  obtain ⟨cr, hcr⟩ : ∃ cr, cr = crcOf bl := ⟨_, rfl⟩
  rw [← hcr] at SU PU hcl
  clear hcr
  have d1 : decide ((bl.length : Int) > 100000) = false := decide_eq_false (by omega)
  have d3 : ¬ 100000 < bl.length := by omega
  go_enter Tryd.func4, Tryd.ntmps4
  go_wp2_with (at_builtin; first | refine wpList_append_run rfl (.const (.slice none 0 0)) (.tmp 14) 26 rfl _ _ rfl rfl RUN1.out ?_ | refine wpList_append_run rfl (.const (.slice none 0 0)) (.tmp 16) 26 rfl _ _ rfl rfl RUN2.out ?_)
  refine (SU.out _ (by exact HR.out.of HX2.out)).mono ?_; rintro e3 w3 ⟨rfl, rfl⟩
  go_wp2_with fail
  refine PU.out.mono ?_; rintro e4 w4 ⟨v4, rfl, hO4, hB4⟩
  obtain ⟨A4, c4, rfl, hc4, hs4, _⟩ := hO4.form
  clear hO4
  have hs14 : SlAt w4 A1 (u8v bl) := fun hn => by
    have h0 := HS1.out hn
    obtain ⟨ad, e, hb, hc⟩ := h0
    exact ⟨ad, e, Nat.lt_of_lt_of_le hb (Nat.le_trans HW2.out.size hB4.size), fun j u hu => (hB4.cell (p := ad.add j) (by rw [add_block]; exact hb)).trans ((HW2.out.cell (by rw [add_block]; exact hb)).trans (hc j u hu))⟩
  have hW4 : Within w w4 := by
    have h1 : Below w1.heap.size w2 w4 := hB4
    exact Below.trans HX2.out (Below.mono h1 HW1.out.size)
  have HS14 := Lib.hid hs14; have HS4 := Lib.hid hs4; have HW4 := Lib.hid hW4; clear hs14 hs4 hB4 hW4
  go_wp2
  have hpair := pair_of (w4.alloc (.cells #[.slice A1 bl.length c1, .slice A4 (bl.length + 4) c4] 26)) A1 A4 c1 c4 bl ws w4.heap.size HB.out HWS.out hc1 (by omega) (by omega) (by omega) (by simp) (by rw [hwl]; simp) (HS14.out.of ((Within.refl w4).alloc _)) (HS4.out.of ((Within.refl w4).alloc _))
  obtain ⟨W5, hW5e⟩ : ∃ W5, W5 = w4.alloc (.cells #[.slice A1 bl.length c1, .slice A4 (bl.length + 4) c4] 26) := ⟨_, rfl⟩
  rw [← hW5e] at hpair ⊢
  obtain ⟨Af, cf, Lf, hPF⟩ := hpair
  have hW5 : Within w W5 := by rw [hW5e]; exact HW4.out.alloc _
  have PF := Lib.hid hPF; have HW5 := Lib.hid hW5; clear hPF hW5 hW5e
  obtain ⟨gb, hgb⟩ : ∃ gb, gb = w4.heap.size := ⟨_, rfl⟩
  rw [← hgb] at PF ⊢
  clear hgb hwl hcl hc1 hc4
  go_loopw [24] (fun iv wr => ∃ i : Nat, i ≤ 2 ∧ iv = .int .i64 (i : Int) ∧ Within W5 wr) (fun iv _ => 2 - (intOf iv).toNat)
  case atStart => exact ⟨0, by omega, rfl, Within.refl _⟩
  case round =>
    obtain ⟨i, hi, rfl, hin⟩ := hrel
    by_cases hlt : i < 2
    · obtain ⟨hc, hs, hLb, hLc, hLl⟩ := PF.out i hlt
      obtain ⟨L, hL⟩ : ∃ L, L = Lf i := ⟨_, rfl⟩
      rw [← hL] at hc hs hLb hLc hLl
      clear hL
      obtain ⟨Al, hA⟩ : ∃ Al, Al = Af i := ⟨_, rfl⟩
      rw [← hA] at hc hs
      clear hA
      obtain ⟨cl, hcl⟩ : ∃ cl, cl = cf i := ⟨_, rfl⟩
      rw [← hcl] at hc hLc
      clear hcl
      have hgl := World.block_lt_of_cell? _ _ hc
      have hgl : gb < W5.heap.size := hgl
      have hc' := (hin.cells _ _ hgl).trans hc
      have hgr : gb < wr.heap.size := Nat.lt_of_lt_of_le hgl hin.size
      have hs' := hs.of hin
      obtain ⟨v6, w6, hrun6, hO6, hB6⟩ := run_app_u8 wr wr.heap.size (.slice none 0 0) [] L (OwnB.nil_ _ _) Al cl hs' (by simp; omega) (Nat.le_refl _)
      rw [List.nil_append] at hO6
      have hW6 : Within wr w6 := hB6
      obtain ⟨A6, c6, rfl, hc6, hs6, _⟩ := hO6.form
      clear hO6 hB6
      have hwr : Within w wr := HW5.out.trans hin
      have UN := Lib.hid (Unpack_any A6 c6 L hLb (by omega) hc6 w6 (HT.out.of (hwr.trans hW6)) hs6)
      have RUN := Lib.hid (fun (W : World) (h : SlAt W Al (u8v L)) => Runpack_any Al cl L hLb (by omega) hLc W h)
      have BY := Lib.hid (fun (W : World) A' c' (h1 : SlAt W A' (u8v L)) (h2 : SlAt W Al (u8v L)) => bytes_any A' Al c' cl L L hLb hLb W h1 h2)
      have PB := Lib.hid (fun (h0 : unpackE pf L = 0) A c W hT hr => Pack_back hLb h0 A c W hT hr)
      have SM := Lib.hid (fun (s q t : Int) A B c d (l : List Nat) hl W h1 h2 => Rsame_self s q t A B c d l hl W h1 h2)
      have hvl : (rdOf L).vals.length ≤ 1152921504606846976 := by
        unfold rdOf; split
        · rename_i h0; have := (readB_ok pf_ok hLb h0).len; omega
        · exact Nat.zero_le _
      obtain ⟨rd, hrd⟩ : ∃ rd, rd = rdOf L := ⟨_, rfl⟩
      rw [← hrd] at UN RUN PB hvl
      clear hrd
      obtain ⟨E, hE⟩ : ∃ E, E = unpackE pf L := ⟨_, rfl⟩
      rw [← hE] at UN RUN PB
      clear hE
      have RUNA := Lib.hid hrun6; have HS := Lib.hid hs'; have HIN := Lib.hid hin; have HWR := Lib.hid hwr; have HW6 := Lib.hid hW6; have HLL := Lib.hid hLl; have HVL := Lib.hid hvl
      clear hrun6 hs' hin hwr hW6 hLb hLc hLl hs hc hs6 hc6 hvl
      have hee : (E != E) = false := by simp
      have hll : decide (L = L) = true := decide_eq_true rfl
      go_wp2_with (at_builtin; refine wpList_append_run rfl (.const (.slice none 0 0)) (.tmp 29) 26 rfl _ _ rfl rfl RUNA.out ?_)
      refine UN.out.mono ?_; rintro e7 w7 ⟨v7, rfl, hO7, h7⟩
      obtain ⟨A7, c7, rfl, _, hs7, _⟩ := hO7.form
      have HS7 := Lib.hid hs7; clear hs7 hO7
      have hX7 : Within wr w7 := HW6.out.trans h7
      have hcl7 := HS.out.of hX7
      go_wp2_with fail
      refine (RUN.out _ (by exact hcl7.of (by repeat (first | with_reducible exact Within.refl _ | with_reducible assumption | with_reducible refine Within.alloc ?_ _ | with_reducible refine Within.drew ?_ | with_reducible refine Within.drewN ?_ _ | with_reducible refine Within.setCell ?_ (by first | (simp; done) | (simp; omega)) _ | with_reducible refine Within.trans ?_ (by assumption))))).mono ?_; rintro e8 w8 ⟨v8, rfl, hO8, h8⟩
      obtain ⟨A8, c8, rfl, _, hs8, _⟩ := hO8.form
      have HS8 := Lib.hid hs8; clear hs8 hO8 hcl7
      have z0 : w8.cell? ⟨w7.heap.size, 0, none⟩ = some (.int .i64 (rd.sensor : Int)) := (h8.cells _ _ (by simp)).trans (by simp)
      have z1 : w8.cell? ⟨w7.heap.size, 1, none⟩ = some (.int .u32 (rd.seq : Int)) := (h8.cells _ _ (by simp)).trans (by simp)
      have z2 : w8.cell? ⟨w7.heap.size, 2, none⟩ = some (.int .u32 (rd.stamp : Int)) := (h8.cells _ _ (by simp)).trans (by simp)
      have z3 : w8.cell? ⟨w7.heap.size, 3, none⟩ = some (.slice A7 rd.vals.length c7) := (h8.cells _ _ (by simp)).trans (by simp)
      have lt8 : w7.heap.size < w8.heap.size := World.block_lt_of_cell? _ _ z0
      have ne8 : ¬ w7.heap.size = w8.heap.size := by omega
      have hX78 : Within w7 w8 := Within.trans ((Within.refl w7).alloc _) h8
      have hX8 : Within wr w8 := hX7.trans hX78
      go_wp2_with fail
      refine (SM.out _ _ _ A7 A8 c7 c8 rd.vals HVL.out _ (by exact HS7.out.of (by repeat (first | with_reducible exact Within.refl _ | with_reducible assumption | with_reducible refine Within.alloc ?_ _ | with_reducible refine Within.drew ?_ | with_reducible refine Within.drewN ?_ _ | with_reducible refine Within.setCell ?_ (by first | (simp; done) | (simp; omega)) _ | with_reducible refine Within.trans ?_ (by assumption)))) (by exact HS8.out.of (by repeat (first | with_reducible exact Within.refl _ | with_reducible assumption | with_reducible refine Within.alloc ?_ _ | with_reducible refine Within.drew ?_ | with_reducible refine Within.drewN ?_ _ | with_reducible refine Within.setCell ?_ (by first | (simp; done) | (simp; omega)) _ | with_reducible refine Within.trans ?_ (by assumption))))).mono ?_; rintro e9 w9 ⟨rfl, h9⟩
      have h89 : Within w8 w9 := Within.trans ((Within.refl w8).alloc _) h9
      have y0 := (h89.cells _ _ lt8).trans z0
      have y1 := (h89.cells _ _ lt8).trans z1
      have y2 := (h89.cells _ _ lt8).trans z2
      have y3 := (h89.cells _ _ lt8).trans z3
      have hX9 : Within wr w9 := hX8.trans h89
      by_cases hE0 : E = 0
      · subst hE0
        go_wp2_with fail
        refine (PB.out (by trivial) A7 c7 w9 (HT.out.of (HWR.out.trans hX9)) (HS7.out.of (hX78.trans h89))).mono ?_; rintro e10 w10 ⟨v10, rfl, hO10, h10⟩
        obtain ⟨A10, c10, rfl, _, hs10, _⟩ := hO10.form
        have HS10 := Lib.hid hs10; clear hs10 hO10
        have hX10 : Within wr w10 := hX9.trans h10
        go_wp2_with fail
        refine (BY.out _ A10 c10 HS10.out (HS.out.of hX10)).mono ?_; rintro e11 w11 ⟨rfl, rfl⟩
        go_wp2
        go_roundw
        case rel => exact ⟨i + 1, hlt, by go_num, HIN.out.trans hX10⟩
        case measure => simp [intOf]; omega
      · have hne : (E != 0) = true := bne_iff_ne.2 hE0
        go_wp2
        go_roundw
        case rel => exact ⟨i + 1, hlt, by go_num, HIN.out.trans hX9⟩
        case measure => simp [intOf]; omega
    · obtain rfl : i = 2 := by omega
      go_wp2_with fail
      refine (awake_true _ (HT.out.of (HW5.out.trans hin))).mono ?_; rintro e6 w6 ⟨rfl, h6⟩
      go_wp2
      go_ret
      exact ⟨rfl, HW5.out.trans (hin.trans h6)⟩

theorem unpacks_walk (A : Option Addr) (c : Nat) (bl : List Nat) (hb : Bytes bl) (hl : bl.length ≤ 140737488355328) (w : World) (hT : FmS w) (hr : SlAt w A (u8v bl)) : Calls Tryd.prog 4 #[.slice A bl.length c] w fun e w' => e = .returned (.bool true) ∧ Within w w' := by
  by_cases h : 100000 < bl.length
  · exact unpacks_long A c bl hb hl h w hT hr
  · exact unpacks_ok A c bl hb (by omega) w hT hr

end Go.Proofs.YtmpcnhiklpahnaaDoor
