/- PacketChunks: walk. -/
import Derived.Test.YtmpcnhiklpahnaaDoorPk25
namespace Go.Proofs.YtmpcnhiklpahnaaDoor
open Go.RowKit

set_option maxRecDepth 100000 in
set_option maxHeartbeats 1000000 in
theorem chunks_long (A : Option Addr) (c : Nat) (sl : List Nat) (B : Option Addr) (d : Nat) (zs : List Int) (hbig : 20000 < sl.length) (w : World) (hT : FmS w)  : Calls Tryd.prog 8 #[.slice A sl.length c, .slice B zs.length d] w fun e w' => e = .returned (.bool true) ∧ Within w w' := by
  have HT := Lib.hid hT; clear hT
  have d1 : 20000 < sl.length := hbig
  go_enter Tryd.func8, Tryd.ntmps8
  go_wp2_with fail
  refine (awake_true _ (by exact HT.out.of (by repeat (first | with_reducible exact Within.refl _ | with_reducible assumption | with_reducible refine Within.alloc ?_ _ | with_reducible refine Within.drew ?_ | with_reducible refine Within.drewN ?_ _ | with_reducible refine Within.setCell ?_ (by first | (simp; done) | (simp; omega)) _ | with_reducible refine Within.trans ?_ (by assumption))))).mono ?_; rintro e6 w6 ⟨rfl, h6⟩
  go_wp2
  go_ret
  exact ⟨rfl, (by repeat (first | with_reducible exact Within.refl _ | with_reducible assumption | with_reducible refine Within.alloc ?_ _ | with_reducible refine Within.drew ?_ | with_reducible refine Within.drewN ?_ _ | with_reducible refine Within.setCell ?_ (by first | (simp; done) | (simp; omega)) _ | with_reducible refine Within.trans ?_ (by assumption)))⟩

set_option maxRecDepth 100000 in
set_option maxHeartbeats 1000000 in
theorem chunks_many (A : Option Addr) (c : Nat) (sl : List Nat) (B : Option Addr) (d : Nat) (zs : List Int) (hbig : sl.length ≤ 20000 ∧ 2000 < zs.length) (w : World) (hT : FmS w)  : Calls Tryd.prog 8 #[.slice A sl.length c, .slice B zs.length d] w fun e w' => e = .returned (.bool true) ∧ Within w w' := by
  have HT := Lib.hid hT; clear hT
  have d1 : ¬ 20000 < sl.length := by omega
  have d2 : 2000 < zs.length := hbig.2
  go_enter Tryd.func8, Tryd.ntmps8
  go_wp2_with fail
  refine (awake_true _ (by exact HT.out.of (by repeat (first | with_reducible exact Within.refl _ | with_reducible assumption | with_reducible refine Within.alloc ?_ _ | with_reducible refine Within.drew ?_ | with_reducible refine Within.drewN ?_ _ | with_reducible refine Within.setCell ?_ (by first | (simp; done) | (simp; omega)) _ | with_reducible refine Within.trans ?_ (by assumption))))).mono ?_; rintro e6 w6 ⟨rfl, h6⟩
  go_wp2
  go_ret
  exact ⟨rfl, (by repeat (first | with_reducible exact Within.refl _ | with_reducible assumption | with_reducible refine Within.alloc ?_ _ | with_reducible refine Within.drew ?_ | with_reducible refine Within.drewN ?_ _ | with_reducible refine Within.setCell ?_ (by first | (simp; done) | (simp; omega)) _ | with_reducible refine Within.trans ?_ (by assumption)))⟩

set_option maxRecDepth 100000 in
set_option maxHeartbeats 1000000 in
theorem chunks_ok (A : Option Addr) (c : Nat) (sl : List Nat) (hsb : Bytes sl) (hsl : sl.length ≤ 140737488355328) (B : Option Addr) (d : Nat) (zs : List Int) (hzb : ∀ n ∈ zs, -9223372036854775808 ≤ n ∧ n < 9223372036854775808) (hzl : zs.length * 8 ≤ 140737488355328) (hfew : sl.length ≤ 20000 ∧ zs.length ≤ 2000) (w : World) (hT : FmS w) (hr : SlAt w A (u8v sl)) (hrb : SlAt w B (zs.map (Value.int .i64))) : Calls Tryd.prog 8 #[.slice A sl.length c, .slice B zs.length d] w fun e w' => e = .returned (.bool true) ∧ Within w w' := by
  have HT := Lib.hid hT; have HR := Lib.hid hr; have HZ := Lib.hid hrb; have HSB := Lib.hid hsb; have HZB := Lib.hid hzb; clear hT hr hrb hsb hzb
  obtain ⟨N, hN⟩ : ∃ N, sl.length = N := ⟨_, rfl⟩
  obtain ⟨Z, hZ⟩ : ∃ Z, zs.length = Z := ⟨_, rfl⟩
  have hfew' := hfew
  rw [hN, hZ] at hfew'
  rw [hN, hZ]
  have d1 : ¬ 20000 < N := by omega
  have d2 : ¬ 2000 < Z := by omega
  have hn1 : N ≤ 20000 := by omega
  have hz1 : Z ≤ 2000 := by omega
  have HN := Lib.hid hN; have HZL := Lib.hid hZ; clear hN hZ hfew hfew' hsl hzl
  go_enter Tryd.func8, Tryd.ntmps8
  go_wp2_with fail
  refine (New_free _).mono ?_; rintro e1 w1 ⟨rfl, hR1, hW1, hz1'⟩
  obtain ⟨bx, hbx⟩ : ∃ bx, bx = w.heap.size := ⟨_, rfl⟩
  rw [← hbx] at hR1 ⊢
  have HBXE := Lib.hid hbx; clear hbx
  have HZ1 := Lib.hid hz1'; clear hz1'
  go_wp2_with fail
  refine (New_free _).mono ?_; rintro e2 w2 ⟨rfl, hR2, hW2, hz2'⟩
  obtain ⟨by_, hby⟩ : ∃ by_, by_ = w1.heap.size := ⟨_, rfl⟩
  rw [← hby] at hR2 ⊢
  have HBYE := Lib.hid hby; clear hby
  have HBXW : Hid (w.heap.size ≤ bx) := Lib.hid (by rw [HBXE.out]; exact Nat.le_refl _)
  have HBYW : Hid (w.heap.size ≤ by_) := Lib.hid (by rw [HBYE.out]; exact hW1.size)
  have HNE : Hid (by_ ≠ bx) := Lib.hid (by have := HZ1.out; have := HBXE.out; have := HBYE.out; omega)
  have HBX : Hid (bx ≠ 1) := Lib.hid (by have := gb_lt HT.out; have := HBXE.out; omega)
  have HBY : Hid (by_ ≠ 1) := Lib.hid (by have := gb_lt HT.out; have := HBYW.out; omega)
  have HX2 := Lib.hid (hW1.trans hW2)
  have hbx2 : bx < w2.heap.size := Nat.lt_of_lt_of_le (hR1 0).lt hW2.size
  have hby2 : by_ < w2.heap.size := (hR2 0).lt
  obtain ⟨v3, w3, hrun3, hO3, hB3⟩ := run_app_u8 w2 w2.heap.size (.slice none 0 0) [] sl (OwnB.nil_ _ _) A c (HR.out.of HX2.out) (by rw [List.length_nil, HN.out]; omega) (Nat.le_refl _)
  rw [List.nil_append] at hO3
  have hW3 : Within w2 w3 := hB3
  obtain ⟨A3, c3, rfl, _, hs3, _⟩ := hO3.form
  rw [HN.out] at hrun3
  have FD := Feed_any bx HBX.out [] sl (fun x hx => by cases hx) HSB.out A3 c3 (by simp only [List.length_nil, HN.out]; omega) 0 0 (by simp only [List.length_nil, HN.out]; omega) (by simp only [List.length_nil, HN.out]; omega) _ w3 (HT.out.of (HX2.out.trans hW3)) (((hR1 (bx + by_ + 1)).of hW2).of hW3) (by omega) hs3
  rw [HN.out] at FD
  have HFD := Lib.hid FD; have RUN3 := Lib.hid hrun3; have HX3 := Lib.hid (HX2.out.trans hW3); have HRY3 := Lib.hid (fun base => (hR2 base).of hW3)
  have hbx3 := Nat.lt_of_lt_of_le hbx2 hW3.size
  have hby3 := Nat.lt_of_lt_of_le hby2 hW3.size
  clear FD hrun3 hs3 hO3 hB3 hR1 hR2 hW1 hW2 hW3 hz2' hbx2 hby2
  go_wp2_with (at_builtin; refine wpList_append_run rfl (.const (.slice none 0 0)) (.tmp 36) 26 rfl _ _ rfl rfl RUN3.out ?_)
  refine HFD.out.mono ?_; rintro e4 w4 ⟨v4, rfl, hO4, hR4, hB4⟩
  simp only [List.nil_append, Nat.zero_add] at hO4 hR4
  have hcnt := feed_count HSB.out
  have hall := feed_all pf_ok sl.length sl (Nat.le_refl _) HSB.out
  have hX4 := HX3.out.aside hB4 HBXW.out
  have HRY4 := Lib.hid (fun base (h : bx < base) => (HRY3.out base).but hB4 HNE.out h)
  have hby4 : by_ < w4.heap.size := Nat.lt_of_lt_of_le hby3 hB4.size
  have hbx4 : bx < w3.heap.size := hbx3
  have HBYW3 : Hid (by_ < w3.heap.size) := Lib.hid hby3
  obtain ⟨v5, w5, hrun5, hO5, hB5⟩ := run_app_u8 w4 w4.heap.size (.slice none 0 0) [] sl (OwnB.nil_ _ _) A c (HR.out.of hX4) (by rw [List.length_nil, HN.out]; omega) (Nat.le_refl _)
  rw [List.nil_append] at hO5
  have hW5 : Within w4 w5 := hB5
  obtain ⟨A5, c5, rfl, hc5, hs5, hA5⟩ := hO5.form
  rw [HN.out] at hc5 hrun5 hO5
  have hX5 := hX4.trans hW5
  have HRY5 := Lib.hid (fun base (h : bx < base) => (HRY4.out base h).of hW5)
  have HRX5 := Lib.hid (hR4.of hW5)
  have HO4 := Lib.hid (hO4.of hW5)
  have hlv4 : ∃ A4 c4, v4 = .slice A4 (feedV pf sl).1.length c4 := by obtain ⟨A4, c4, e, _⟩ := hO4.at; exact ⟨A4, c4, e⟩
  obtain ⟨A4, c4, rfl⟩ := hlv4
  have RUN5 := Lib.hid hrun5; have HX5 := Lib.hid hX5; have HS5 := Lib.hid hs5; have HOW5 := Lib.hid hO5; have HA5 := Lib.hid hA5; have HC5 := Lib.hid hc5; have HCN := Lib.hid hcnt; have HALL := Lib.hid hall
  have hby5 : by_ < w5.heap.size := Nat.lt_of_lt_of_le hby4 hW5.size
  clear hrun5 hX5 hs5 hA5 hO5 hB5 hW5 hO4 hR4 hB4 hX4 hcnt hall hc5
  obtain ⟨nw, hnw⟩ : ∃ nw, nw = (feedV pf sl).1.length := ⟨_, rfl⟩
  rw [← hnw]
  have HNW := Lib.hid hnw; clear hnw
  go_wp2_with (at_builtin; refine wpList_append_run rfl (.const (.slice none 0 0)) (.tmp 39) 26 rfl _ _ rfl rfl RUN5.out ?_)
  have hA5b : ∀ ad, A5 = some ad → ad.block < w5.heap.size := fun ad e => (HOW5.out.lt ad.block (by rw [e]; rfl)).2
  have HA5B := Lib.hid hA5b; clear hA5b
  go_loopw [8, 9, 43] (fun rv lv iv wr => ∃ i : Nat, i ≤ Z ∧ iv = .int .i64 (i : Int) ∧ But by_ w5 wr ∧ ∃ (m R : Nat) (A' : Option Addr) (c' bP : Nat), m + R = N ∧ lv = .slice A' R c' ∧ R ≤ c' ∧ SlAt w5 A' (u8v (sl.drop m)) ∧ (∀ ad, A' = some ad → ad.block ≠ by_) ∧ RdsO wr w5.heap.size rv (feedV pf (sl.take m)).1 ∧ RdrP wr by_ bP (feedV pf (sl.take m)).2.2 (feedV pf (sl.take m)).1.length (feedV pf (sl.take m)).2.1 ∧ by_ < bP) (fun _ _ iv _ => Z - (intOf iv).toNat)
  case atStart =>
    refine ⟨0, by omega, rfl, But.refl _ _, 0, N, A5, c5, bx + by_ + 1, by omega, rfl, HC5.out, HS5.out, fun ad e => by have := HA5.out ad e; omega, ?_, ?_, by omega⟩
    · rw [List.take_zero, feedV_nil]; exact RdsO.nil_ _ _
    · rw [List.take_zero, feedV_nil]; exact HRY5.out _ (by omega)
  case round =>
    obtain ⟨i, hi, rfl, hbut, m, R, A', c', bP, hmR, rfl, hRc, hsl, hAb, hrds, hrdr, hbP⟩ := hrel
    have hxr := HX5.out.aside hbut HBYW.out
    by_cases hlt : i < Z
    · have hzz : (zs.map (Value.int .i64))[i]? = some (.int .i64 (zs[i]'(by rw [HZL.out]; exact hlt))) := by rw [List.getElem?_map, List.getElem?_eq_getElem (by rw [HZL.out]; exact hlt)]; rfl
      obtain ⟨ad, rfl, hadl, hzc⟩ := (HZ.out.of hxr) (by rw [List.length_map, HZL.out]; omega)
      have hzc' := hzc i _ hzz
      clear hzc
      have hzc := hzc'
      clear hzc'
      obtain ⟨z, hz⟩ : ∃ z, z = zs[i]'(by rw [HZL.out]; exact hlt) := ⟨_, rfl⟩
      rw [← hz] at hzc
      have hzb := HZB.out z (by rw [hz]; exact List.getElem_mem _)
      clear hz hzz
      obtain ⟨k, hk, hke, hlo, hhi⟩ := round_at z 40 (by decide) (by decide)
      have hke : (z.tmod 40 + 40).tmod 40 = (k : Int) := hke
      have hlo : -40 < z.tmod 40 := hlo
      have hhi : z.tmod 40 < 40 := hhi
      have b1 : (i : Int) < (Z : Int) := by omega
      obtain ⟨n, hnR, hmin⟩ : ∃ n : Nat, n ≤ R ∧ min (k : Int) (R : Int) = (n : Int) := ⟨min k R, Nat.min_le_right _ _, by omega⟩
      have hslr : SlAt wr A' (u8v (sl.drop m)) := hsl.but hbut hAb
      have htl : (((sl.drop m).take n)).length = n := by rw [List.length_take, List.length_drop, HN.out]; omega
      obtain ⟨hc1, hc2, hc3, hc4⟩ := feed_count (x := sl.take m) (HSB.out.take m)
      rw [List.length_take] at hc1
      have FD := Feed_any by_ HBY.out (feedV pf (sl.take m)).2.2 ((sl.drop m).take n) hc3 (HSB.out.drop m |>.take n) A' n (by rw [htl]; omega) (feedV pf (sl.take m)).1.length (feedV pf (sl.take m)).2.1 (by rw [htl, HN.out] at *; omega) (by rw [htl, HN.out] at *; omega) bP wr (HT.out.of hxr) hrdr hbP (by have := hslr.take n; unfold u8v at this ⊢; rwa [← List.map_take] at this)
      rw [htl] at FD
      have hft := feed_take sl m n
      have HFT := Lib.hid hft
      have HFD7 := Lib.hid FD; have HB5 := Lib.hid hbut; have HSL := Lib.hid hsl; have HAB := Lib.hid hAb; have HRDS := Lib.hid hrds; have HBP := Lib.hid hbP; have HXR := Lib.hid hxr; have HMR := Lib.hid hmR; have HRL := Lib.hid hrdr.lt; have HC1 := Lib.hid hc1
      clear FD hft hslr htl hc1 hc2 hc3 hc4 hbut hsl hAb hrds hrdr hbP hxr hmR
      have k1 : (n : Int) ≤ (R : Int) := by omega
      have k2 : (n : Int) ≤ (c' : Int) := by omega
      have k0 : (n : Int) ≤ (n : Int) := by omega
      have hnc : n ≤ c' := by omega
      go_wp2_with fail
      refine HFD7.out.mono ?_; rintro e7 w7 ⟨v7, rfl, hO7, hR7, hB7⟩
      have hrl := HRDS.out.own_lt
      have hrds7 := HRDS.out.but hB7 hby5
      obtain ⟨u8', w8, hrun8, hrds8, hg8, hlo8⟩ := run_app_rds w7 w5.heap.size wr.heap.size _ _ _ _ hrds7 hO7 HB5.out.size (fun j hj => (hrl j hj).2) (by have h1 := feed_count (x := sl.take (m + n)) (HSB.out.take _); rw [HFT.out] at h1; have h2 := h1.1; simp only [List.length_append, List.length_take] at h2; rw [HN.out] at h2; omega) (Nat.le_trans HB5.out.size hB7.size)
      have hrd8 := hR7.grown hg8 (fun j hj => ⟨fun e => by have := (hrl j hj).1; omega, (hrl j hj).2⟩)
      have hB8 : But by_ w5 w8 := (HB5.out.trans hB7).grown hg8 hlo8
      rw [show (feedV pf (sl.take m)).1 ++ (feedV pf ((feedV pf (sl.take m)).2.2 ++ (sl.drop m).take n)).1 = (feedV pf (sl.take (m + n))).1 by rw [HFT.out]] at hrds8
      rw [show (feedV pf ((feedV pf (sl.take m)).2.2 ++ (sl.drop m).take n)).2.2 = (feedV pf (sl.take (m + n))).2.2 by rw [HFT.out], show (feedV pf (sl.take m)).1.length + (feedV pf ((feedV pf (sl.take m)).2.2 ++ (sl.drop m).take n)).1.length = (feedV pf (sl.take (m + n))).1.length by rw [HFT.out, List.length_append], show (feedV pf (sl.take m)).2.1 + (feedV pf ((feedV pf (sl.take m)).2.2 ++ (sl.drop m).take n)).2.1 = (feedV pf (sl.take (m + n))).2.1 by rw [HFT.out]] at hrd8
      obtain ⟨A7, c7, rfl, hx7, hy7⟩ := hO7.form
      clear hx7 hy7
      obtain ⟨n7, hn7⟩ : ∃ n7, (feedV pf ((feedV pf (sl.take m)).2.2 ++ (sl.drop m).take n)).1.length = n7 := ⟨_, rfl⟩
      rw [hn7] at hrun8 ⊢
      have HN7 := Lib.hid hn7; clear hn7 hrl
      have RUN8 := Lib.hid hrun8; have HRDS8 := Lib.hid hrds8; have HRD8 := Lib.hid hrd8; have HB8 := Lib.hid hB8; have HRW := Lib.hid HB5.out.size
      clear hrds7 hrun8 hrds8 hrd8 hB8 hg8 hlo8 hO7 hR7 hB7
      have h64 := (feed_count (x := sl.take (m + n)) (HSB.out.take _)).2.1
      obtain ⟨n2, hn2⟩ : ∃ n2, (feedV pf (sl.take (m + n))).2.2.length = n2 := ⟨_, rfl⟩
      rw [hn2] at h64
      have HN2 := Lib.hid hn2; clear hn2
      have q1 : decide ((n2 : Int) ≥ 64) = false := decide_eq_false (by omega)
      have q2 : decide ((n2 : Int) < 0) = false := decide_eq_false (by omega)
      have q3 : ¬ 64 ≤ n2 := by omega
      rcases A' with _ | a'
      · have hR0 : R = 0 := by
          rcases Nat.eq_zero_or_pos R with h | h
          · exact h
          · obtain ⟨_, e, _⟩ := HSL.out (by rw [u8v_len, List.length_drop, HN.out]; have := HMR.out; omega); cases e
        subst hR0
        obtain rfl : n = 0 := by omega
        go_wp2_with (at_builtin; refine wpList_append_run rfl (.tmp 55) (.tmp 61) 58 rfl _ _ rfl rfl RUN8.out ?_)
        refine (Waiting_any by_ _ _ _ _ w8 HRD8.out).mono ?_; rintro e9 w9 ⟨rfl, rfl⟩
        rw [HN2.out]
        go_wp2_with fail
        refine (Waiting_any by_ _ _ _ _ w8 HRD8.out).mono ?_; rintro e9 w9 ⟨rfl, rfl⟩
        rw [HN2.out]
        go_wp2
        go_roundw
        case rel => exact ⟨i + 1, hlt, by go_num, HB8.out, m + 0, 0, none, c', _, by have := HMR.out; omega, rfl, by omega, (by have := HSL.out; exact this), HAB.out, HRDS8.out, HRD8.out, Nat.lt_of_lt_of_le HRL.out (Nat.le_refl _)⟩
        case measure => simp [intOf]; omega
      · rcases Decidable.em (n = c') with hcc | hcc
        · subst hcc
          obtain rfl : R = n := by omega
          go_wp2_with (at_builtin; refine wpList_append_run rfl (.tmp 55) (.tmp 61) 58 rfl _ _ rfl rfl RUN8.out ?_)
          refine (Waiting_any by_ _ _ _ _ w8 HRD8.out).mono ?_; rintro e9 w9 ⟨rfl, rfl⟩
          rw [HN2.out]
          go_wp2_with fail
          refine (Waiting_any by_ _ _ _ _ w8 HRD8.out).mono ?_; rintro e9 w9 ⟨rfl, rfl⟩
          rw [HN2.out]
          go_wp2
          go_roundw
          case rel => exact ⟨i + 1, hlt, by go_num, HB8.out, m + R, 0, some a', 0, _, by have := HMR.out; omega, (by first | rfl | simp), by omega, (by rw [List.drop_of_length_le (by rw [HN.out]; have := HMR.out; omega)]; exact SlAt.nil), HAB.out, HRDS8.out, HRD8.out, Nat.lt_of_lt_of_le HRL.out (Nat.le_refl _)⟩
          case measure => simp [intOf]; omega
        · have hcc' : ¬ c' = n := fun h => hcc h.symm
          go_wp2_with (at_builtin; refine wpList_append_run rfl (.tmp 55) (.tmp 61) 58 rfl _ _ rfl rfl RUN8.out ?_)
          refine (Waiting_any by_ _ _ _ _ w8 HRD8.out).mono ?_; rintro e9 w9 ⟨rfl, rfl⟩
          rw [HN2.out]
          go_wp2_with fail
          refine (Waiting_any by_ _ _ _ _ w8 HRD8.out).mono ?_; rintro e9 w9 ⟨rfl, rfl⟩
          rw [HN2.out]
          go_wp2
          go_roundw
          case rel => exact ⟨i + 1, hlt, by go_num, HB8.out, m + n, R - n, some (a'.add n), c' - n, _, by have := HMR.out; omega, (by first | rfl | simp), by omega, (by have := HSL.out.drop n; unfold u8v at this ⊢; rwa [← List.map_drop, List.drop_drop] at this), (fun ad e => by injection e with e; subst e; rw [add_block]; exact HAB.out a' rfl), HRDS8.out, HRD8.out, Nat.lt_of_lt_of_le HRL.out (Nat.le_refl _)⟩
          case measure => simp [intOf]; omega
    · obtain rfl : i = Z := by omega
      have hR0 : True := trivial
      have hslr : SlAt wr A' (u8v (sl.drop m)) := hsl.but hbut hAb
      have htl : ((sl.drop m)).length = R := by rw [List.length_drop, HN.out]; omega
      obtain ⟨hc1, hc2, hc3, hc4⟩ := feed_count (x := sl.take m) (HSB.out.take m)
      rw [List.length_take] at hc1
      have FD := Feed_any by_ HBY.out (feedV pf (sl.take m)).2.2 (sl.drop m) hc3 (HSB.out.drop m) A' c' (by rw [htl]; omega) (feedV pf (sl.take m)).1.length (feedV pf (sl.take m)).2.1 (by rw [htl, HN.out] at *; omega) (by rw [htl, HN.out] at *; omega) bP wr (HT.out.of hxr) hrdr hbP hslr
      rw [htl] at FD
      have hft := feed_take sl m R
      have hdt : (sl.drop m).take R = sl.drop m := List.take_of_length_le (by rw [List.length_drop, HN.out]; omega)
      rw [hdt] at hft
      have HFT := Lib.hid hft
      have HFD7 := Lib.hid FD; have HB5 := Lib.hid hbut; have HSL := Lib.hid hsl; have HAB := Lib.hid hAb; have HRDS := Lib.hid hrds; have HBP := Lib.hid hbP; have HXR := Lib.hid hxr; have HMR := Lib.hid hmR; have HRL := Lib.hid hrdr.lt; have HC1 := Lib.hid hc1
      clear FD hft hslr htl hc1 hc2 hc3 hc4 hbut hsl hAb hrds hrdr hbP hxr hmR
      go_wp2_with fail
      refine HFD7.out.mono ?_; rintro e7 w7 ⟨v7, rfl, hO7, hR7, hB7⟩
      have hrl := HRDS.out.own_lt
      have hrds7 := HRDS.out.but hB7 hby5
      obtain ⟨u8', w8, hrun8, hrds8, hg8, hlo8⟩ := run_app_rds w7 w5.heap.size wr.heap.size _ _ _ _ hrds7 hO7 HB5.out.size (fun j hj => (hrl j hj).2) (by have h1 := feed_count (x := sl.take (m + R)) (HSB.out.take _); rw [HFT.out] at h1; have h2 := h1.1; simp only [List.length_append, List.length_take] at h2; rw [HN.out] at h2; omega) (Nat.le_trans HB5.out.size hB7.size)
      have hrd8 := hR7.grown hg8 (fun j hj => ⟨fun e => by have := (hrl j hj).1; omega, (hrl j hj).2⟩)
      have hB8 : But by_ w5 w8 := (HB5.out.trans hB7).grown hg8 hlo8
      rw [show (feedV pf (sl.take m)).1 ++ (feedV pf ((feedV pf (sl.take m)).2.2 ++ sl.drop m)).1 = (feedV pf (sl.take (m + R))).1 by rw [HFT.out]] at hrds8
      rw [show (feedV pf ((feedV pf (sl.take m)).2.2 ++ sl.drop m)).2.2 = (feedV pf (sl.take (m + R))).2.2 by rw [HFT.out], show (feedV pf (sl.take m)).1.length + (feedV pf ((feedV pf (sl.take m)).2.2 ++ sl.drop m)).1.length = (feedV pf (sl.take (m + R))).1.length by rw [HFT.out, List.length_append], show (feedV pf (sl.take m)).2.1 + (feedV pf ((feedV pf (sl.take m)).2.2 ++ sl.drop m)).2.1 = (feedV pf (sl.take (m + R))).2.1 by rw [HFT.out]] at hrd8
      obtain ⟨A7, c7, rfl, hx7, hy7⟩ := hO7.form
      clear hx7 hy7
      obtain ⟨n7, hn7⟩ : ∃ n7, (feedV pf ((feedV pf (sl.take m)).2.2 ++ sl.drop m)).1.length = n7 := ⟨_, rfl⟩
      rw [hn7] at hrun8 ⊢
      have HN7 := Lib.hid hn7; clear hn7 hrl
      have RUN8 := Lib.hid hrun8; have HRDS8 := Lib.hid hrds8; have HRD8 := Lib.hid hrd8; have HB8 := Lib.hid hB8; have HRW := Lib.hid HB5.out.size
      clear hrds7 hrun8 hrds8 hrd8 hB8 hg8 hlo8 hO7 hR7 hB7
      have hmN : m + R = sl.length := by rw [HN.out]; exact HMR.out
      have hfull : sl.take (m + R) = sl := List.take_of_length_le (by omega)
      rw [hfull] at HRDS8 HRD8
      have hR7' : True := trivial
      obtain ⟨rs, hrs⟩ : ∃ rs, rs = (feedV pf sl).1 := ⟨_, rfl⟩
      obtain ⟨K, hK⟩ : ∃ K, K = (feedV pf sl).2.2 := ⟨_, rfl⟩
      obtain ⟨D, hD⟩ : ∃ D, D = (feedV pf sl).2.1 := ⟨_, rfl⟩
      have hall := HALL.out
      have hcn := HCN.out
      have hnw := HNW.out
      have hx5 := HRX5.out
      have ho4 := HO4.out
      rw [← hrs, ← hK, ← hD] at HRD8 hcn hall hx5
      rw [← hrs] at HRDS8 hnw ho4
      rw [HN.out] at hall hcn
      have hx8 : But by_ w5 w8 := HB8.out
      have hX8 := HX5.out.aside hx8 HBYW.out
      have hrx8 := hx5.but hx8 (Ne.symm HNE.out) HBYW3.out
      have ho48 := ho4.but hx8 HBYW3.out
      obtain ⟨A8, c8, rfl, hc8, hat8, _⟩ := HRDS8.out.at
      obtain ⟨A4', c4', h4v, _, hat4, _⟩ := ho48.at
      injection h4v with e1 e2 e3
      subst e1
      subst e3
      clear e2
      obtain ⟨L, hL⟩ : ∃ L, rs.length = L := ⟨_, rfl⟩
      have hok : ∀ r ∈ rs, r.Ok pf := hall.1
      have hsum := hall.2
      have hLn : L ≤ N := by rw [← hL]; omega
      obtain ⟨n2, hn2⟩ : ∃ n2, K.length = n2 := ⟨_, rfl⟩
      have hKl : n2 < 64 := by rw [← hn2]; exact hcn.2.1
      rw [hn2] at hsum
      rw [hL] at hnw HRD8 hrx8
      have RUN9 := RUN8.out
      rw [hL] at RUN9
      have HRUN9 := Lib.hid RUN9; have HX8 := Lib.hid hX8; have HRX8 := Lib.hid hrx8; have HAT8 := Lib.hid hat8; have HAT4 := Lib.hid hat4; have HOK := Lib.hid hok; have HSUM := Lib.hid hsum; have HL := Lib.hid hL; have HN2 := Lib.hid hn2
      clear RUN9 RUN8 hX8 hrx8 hat8 hat4 hok hsum hall hcn hx5 ho4 ho48 hx8 hrs hK hD hL hn2 hmN hfull hR0 hR7' hc8
      subst hnw
      go_wp2_with (at_builtin; refine wpList_append_run rfl (.tmp 75) (.tmp 78) 58 rfl _ _ rfl rfl HRUN9.out ?_)
      have hlnw : nw ≤ 20000 := by omega
      go_loopw [12, 82] (fun tv iv wr => ∃ j : Nat, j ≤ nw ∧ iv = .int .i64 (j : Int) ∧ tv = .int .i64 ((((rs.take j).map fun r => (packV pf r).length).sum : Nat) : Int) ∧ Within w8 wr) (fun _ iv _ => nw - (intOf iv).toNat)
      case atStart => exact ⟨0, Nat.zero_le _, rfl, by rw [List.take_zero]; rfl, Within.refl _⟩
      case round =>
        obtain ⟨j, hj, rfl, rfl, hin⟩ := hrel
        by_cases hlt2 : j < nw
        · have hget : rs[j]? = some (rs[j]'(by rw [HL.out]; exact hlt2)) := List.getElem?_eq_getElem (by rw [HL.out]; exact hlt2)
          obtain ⟨r, hr⟩ : ∃ r, r = rs[j]'(by rw [HL.out]; exact hlt2) := ⟨_, rfl⟩
          rw [← hr] at hget
          have hrok := HOK.out r (List.mem_of_getElem? hget)
          have hsn := sum_snoc hget
          have hsl1 := sum_take_le rs (j + 1)
          have hsN := HSUM.out
          obtain ⟨T, hT⟩ : ∃ T, ((rs.take j).map fun r => (packV pf r).length).sum = T := ⟨_, rfl⟩
          rw [hT] at hsn ⊢
          have PK := Lib.hid (fun (W : World) A c (hT : FmS W) (h : SlAt W A (f64v r.vals)) => Pack_fit r.sensor r.seq r.stamp A c r.vals hrok W hT h)
          have hp16 := (frame_len hrok).2
          obtain ⟨g1, Av, cv, rfl, l1, x0, x1, x2, x3, hs1⟩ := (HAT8.out.of hin) j r hget
          have HS1 := Lib.hid hs1; clear hs1
          rw [Nat.mul_comm 4 j] at x0 x1 x2 x3
          obtain ⟨pl, hpl⟩ : ∃ pl, packV pf r = pl := ⟨_, rfl⟩
          have PK2 : Hid (∀ (W : World) A c (hT : FmS W) (h : SlAt W A (f64v r.vals)), Calls Tryd.prog 12 #[.agg #[.int .i64 (r.sensor : Int), .int .u32 (r.seq : Int), .int .u32 (r.stamp : Int), .slice A r.vals.length c]] W fun e w' => ∃ v, e = .returned (.tuple #[v, .int .i64 0]) ∧ OwnB w' W.heap.size v pl ∧ Within W w') := by rw [← hpl]; exact PK
          rw [hpl] at hsn hp16
          have hTb : T + pl.length ≤ 20000 := by omega
          have HSN := Lib.hid hsn; have HIN := Lib.hid hin; have HXW := Lib.hid (HX8.out.trans hin)
          clear hr hget hrok hsn hsl1 hsN hT PK hpl hin
          have b2 : (j : Int) < (nw : Int) := by omega
          go_wp2_with fail
          refine (PK2.out _ Av cv (by exact HT.out.of (HXW.out.alloc _)) (by exact HS1.out.of ((Within.refl _).alloc _))).mono ?_; rintro e10 w10 ⟨v10, rfl, hO10, h10⟩
          obtain ⟨A10, c10, rfl, hx10, hs10, hy10⟩ := hO10.form
          clear hx10 hs10 hy10 hO10
          have hw10 : Within w8 w10 := HIN.out.trans (Within.trans ((Within.refl _).alloc _) h10)
          go_wp2
          go_roundw
          case rel => exact ⟨j + 1, hlt2, by go_num, v_int (by rw [HSN.out]; omega), hw10⟩
          case measure => simp [intOf]; omega
        · obtain rfl : j = nw := by omega
          rw [List.take_of_length_le (by rw [HL.out]; exact Nat.le_refl _)]
          have hsum := HSUM.out
          obtain ⟨T, hT⟩ : ∃ T, (rs.map fun r => (packV pf r).length).sum = T := ⟨_, rfl⟩
          rw [hT] at hsum ⊢
          clear hT
          have hXr := HX8.out.trans hin
          have hry := HRD8.out.of hin
          have hrx := HRX8.out.of hin
          have ha8 := HAT8.out.of hin
          have ha4 := HAT4.out.of hin
          have HRY := Lib.hid hry; have HRX := Lib.hid hrx; have HXR := Lib.hid hXr; have HA8 := Lib.hid ha8; have HA4 := Lib.hid ha4
          clear hry hrx hXr ha8 ha4
          go_wp2_with fail
          refine (Noted_any by_ _ K j D _ HRY.out).mono ?_; rintro e11 w11 ⟨rfl, h11⟩
          have SA := Lib.hid (fun (W : World) (h1 : RdsAt W A8 rs) (h2 : RdsAt W A4 rs) => Rsameall_any A8 A4 c8 c4 rs (by rw [HL.out]; omega) (fun r hr => (HOK.out r hr).len) W h1 h2)
          rw [HL.out] at SA
          have NTX := Lib.hid (fun (W : World) (h : RdrP W bx w3.heap.size K j D) => Noted_any bx _ K j D W h)
          have WTX : Hid (∀ (W : World) (h : RdrP W bx w3.heap.size K j D), Calls Tryd.prog 28 #[.pointer (some ⟨bx, 0, none⟩)] W fun e w' => e = .returned (.int .i64 (n2 : Int)) ∧ W = w') := Lib.hid (fun W h => by have := Waiting_any bx _ K j D W h; rw [HN2.out] at this; exact this)
          have WTY : Hid (∀ (W : World) b (h : RdrP W by_ b K j D), Calls Tryd.prog 28 #[.pointer (some ⟨by_, 0, none⟩)] W fun e w' => e = .returned (.int .i64 (n2 : Int)) ∧ W = w') := Lib.hid (fun W b h => by have := Waiting_any by_ _ K j D W h; rw [HN2.out] at this; exact this)
          have hX11 := HXR.out.trans h11
          have HRY1 := Lib.hid (HRY.out.of h11); have HRX1 := Lib.hid (HRX.out.of h11); have HA81 := Lib.hid (HA8.out.of h11); have HA41 := Lib.hid (HA4.out.of h11); have HX11 := Lib.hid hX11
          have NEQ := noted_eq (j : Int) (D : Int)
          have q1 : ((n2 : Int) == (n2 : Int)) = true := by simp
          have q2 : decide ((n2 : Int) < 64) = true := decide_eq_true (by omega)
          have q3 : ((j : Int) == (j : Int)) = true := by simp
          have w1' : IntKind.i64.wrap ((T : Int) + (D : Int)) = (T : Int) + (D : Int) := by rw [IntKind.wrap_i64]; omega
          have w2' : IntKind.i64.wrap ((T : Int) + (D : Int) + (n2 : Int)) = (T : Int) + (D : Int) + (n2 : Int) := by rw [IntKind.wrap_i64]; omega
          have q4 : ((T : Int) + (D : Int) + (n2 : Int) == (N : Int)) = true := beq_iff_eq.2 (by omega)
          have hm0 : ∀ W : World, W.cell? ⟨w11.heap.size, 0, none⟩ = W.cell? ⟨w11.heap.size, 0, none⟩ := fun _ => rfl
          clear hin h11 hX11 hm0
          go_wp2_with fail
          refine wp_region_schG (fun W => W.cell? ⟨w11.heap.size, 0, none⟩ = some (.int .i64 (j : Int)) ∧ W.cell? ⟨w11.heap.size, 1, none⟩ = some (.int .i64 (D : Int)) ∧ w11.heap.size < W.heap.size ∧ RdsAt W A8 rs ∧ RdsAt W A4 rs ∧ RdrP W bx w3.heap.size K j D ∧ (∃ b, RdrP W by_ b K j D) ∧ FmS W ∧ Within w W) 43 (.firm 0 (.firm 1 (.one 2 (.firm 3 (.firm 4 (.firm 6 (.one 5 (.firm 7 (.firm 8 (.firm 9 (.firm 10 (.firm 12 (.one 11 (.one 13 (.firm 14 (.firm 15 (.firm 16 (.firm 17 (.one 18 (.firm 19 (.firm 20 (.firm 21 (.firm 22 (.firm 23 (.firm 24 (.firm 25 (.firm 26 (.firm 29 (.firm 30 (.one 27 (.firm 28 (.firm 31 (.firm 32 (.firm 33 (.firm 34 (.firm 35 (.firm 36 (.firm 37 (.firm 38 (.firm 39 (.firm 40 (.one 41 (.firm 42 (.one 43 .nil)))))))))))))))))))))))))))))))))))))))))))) (by kernel_rfl) (by kernel_rfl) ⟨by simp, by simp, by simp, HA81.out.of ((Within.refl _).alloc _), HA41.out.of ((Within.refl _).alloc _), HRX1.out.of ((Within.refl _).alloc _), ⟨_, HRY1.out.of ((Within.refl _).alloc _)⟩, HT.out.of (HX11.out.alloc _), HX11.out.alloc _⟩ ?_
          rintro w0 ⟨k0, k1, kb, ha80, ha40, hrx0, hry0, ht0, hw0⟩
          try simp only [Act.put, List.setIfInBounds_toArray, List.set_cons_zero, List.set_cons_succ]
          apply sch_firm rfl rfl (by repeat (first | with_reducible exact Within.refl _ | with_reducible assumption | with_reducible refine Within.alloc ?_ _ | with_reducible refine Within.drew ?_ | with_reducible refine Within.drewN ?_ _ | with_reducible refine Within.setCell ?_ (by first | (simp; done) | (simp; omega)) _ | with_reducible refine Within.trans ?_ (by assumption)))
          · intro wq hq
            have hcq := hq.cells
            clear hq
            go_simp
            first | rfl | (trace_state; fail)
          try simp only [Act.put, List.setIfInBounds_toArray, List.set_cons_zero, List.set_cons_succ]
          apply sch_firm rfl rfl (by repeat (first | with_reducible exact Within.refl _ | with_reducible assumption | with_reducible refine Within.alloc ?_ _ | with_reducible refine Within.drew ?_ | with_reducible refine Within.drewN ?_ _ | with_reducible refine Within.setCell ?_ (by first | (simp; done) | (simp; omega)) _ | with_reducible refine Within.trans ?_ (by assumption)))
          · intro wq hq
            have hcq := hq.cells
            clear hq
            go_simp
            first | rfl | (trace_state; fail)
          try simp only [Act.put, List.setIfInBounds_toArray, List.set_cons_zero, List.set_cons_succ]
          refine sch_one rfl rfl (fun K hK => ?_)
          go_simp
          refine (SA.out _ (ha80.of (by repeat (first | with_reducible exact Within.refl _ | with_reducible assumption | with_reducible refine Within.alloc ?_ _ | with_reducible refine Within.drew ?_ | with_reducible refine Within.drewN ?_ _ | with_reducible refine Within.setCell ?_ (by first | (simp; done) | (simp; omega)) _ | with_reducible refine Within.trans ?_ (by assumption)))) (ha40.of (by repeat (first | with_reducible exact Within.refl _ | with_reducible assumption | with_reducible refine Within.alloc ?_ _ | with_reducible refine Within.drew ?_ | with_reducible refine Within.drewN ?_ _ | with_reducible refine Within.setCell ?_ (by first | (simp; done) | (simp; omega)) _ | with_reducible refine Within.trans ?_ (by assumption))))).mono ?_; rintro e12 w12 ⟨rfl, h12⟩
          refine hK _ _ (fun _ => (by repeat (first | with_reducible exact Within.refl _ | with_reducible assumption | with_reducible refine Within.alloc ?_ _ | with_reducible refine Within.drew ?_ | with_reducible refine Within.drewN ?_ _ | with_reducible refine Within.setCell ?_ (by first | (simp; done) | (simp; omega)) _ | with_reducible refine Within.trans ?_ (by assumption)))) ?_
          clear hK K
          try simp only [Act.put, List.setIfInBounds_toArray, List.set_cons_zero, List.set_cons_succ]
          apply sch_firm rfl rfl (by repeat (first | with_reducible exact Within.refl _ | with_reducible assumption | with_reducible refine Within.alloc ?_ _ | with_reducible refine Within.drew ?_ | with_reducible refine Within.drewN ?_ _ | with_reducible refine Within.setCell ?_ (by first | (simp; done) | (simp; omega)) _ | with_reducible refine Within.trans ?_ (by assumption)))
          · intro wq hq
            have hcq := hq.cells
            clear hq
            go_simp
            first | rfl | (trace_state; fail)
          try simp only [Act.put, List.setIfInBounds_toArray, List.set_cons_zero, List.set_cons_succ]
          apply sch_want rfl (by first | rfl | decide | (simp [Region.wanted, yielded]; done)) (by repeat (first | with_reducible exact Within.refl _ | with_reducible assumption | with_reducible refine Within.alloc ?_ _ | with_reducible refine Within.drew ?_ | with_reducible refine Within.drewN ?_ _ | with_reducible refine Within.setCell ?_ (by first | (simp; done) | (simp; omega)) _ | with_reducible refine Within.trans ?_ (by assumption)))
          · intro wq hq
            have hcq := hq.cells
            clear hq
            go_simp
            first | rfl | (trace_state; fail)
          try simp only [Act.put, List.setIfInBounds_toArray, List.set_cons_zero, List.set_cons_succ]
          apply sch_want rfl (by first | rfl | decide | (simp [Region.wanted, yielded]; done)) (by repeat (first | with_reducible exact Within.refl _ | with_reducible assumption | with_reducible refine Within.alloc ?_ _ | with_reducible refine Within.drew ?_ | with_reducible refine Within.drewN ?_ _ | with_reducible refine Within.setCell ?_ (by first | (simp; done) | (simp; omega)) _ | with_reducible refine Within.trans ?_ (by assumption)))
          · intro wq hq
            have hcq := hq.cells
            clear hq
            go_simp
            first | rfl | (trace_state; fail)
          try simp only [Act.put, List.setIfInBounds_toArray, List.set_cons_zero, List.set_cons_succ]
          refine sch_one_want rfl (by first | rfl | decide | (simp [Region.wanted, yielded]; done)) (fun K hK => ?_)
          go_simp
          refine (NTX.out _ (hrx0.of (by repeat (first | with_reducible exact Within.refl _ | with_reducible assumption | with_reducible refine Within.alloc ?_ _ | with_reducible refine Within.drew ?_ | with_reducible refine Within.drewN ?_ _ | with_reducible refine Within.setCell ?_ (by first | (simp; done) | (simp; omega)) _ | with_reducible refine Within.trans ?_ (by assumption))))).mono ?_; rintro e13 w13 ⟨rfl, h13⟩
          refine hK _ _ (fun _ => (by repeat (first | with_reducible exact Within.refl _ | with_reducible assumption | with_reducible refine Within.alloc ?_ _ | with_reducible refine Within.drew ?_ | with_reducible refine Within.drewN ?_ _ | with_reducible refine Within.setCell ?_ (by first | (simp; done) | (simp; omega)) _ | with_reducible refine Within.trans ?_ (by assumption)))) ?_
          clear hK K
          try simp only [Act.put, List.setIfInBounds_toArray, List.set_cons_zero, List.set_cons_succ]
          apply sch_want rfl (by first | rfl | decide | (simp [Region.wanted, yielded]; done)) (by repeat (first | with_reducible exact Within.refl _ | with_reducible assumption | with_reducible refine Within.alloc ?_ _ | with_reducible refine Within.drew ?_ | with_reducible refine Within.drewN ?_ _ | with_reducible refine Within.setCell ?_ (by first | (simp; done) | (simp; omega)) _ | with_reducible refine Within.trans ?_ (by assumption)))
          · intro wq hq
            have hcq := hq.cells
            clear hq
            go_simp
            first | rfl | (trace_state; fail)
          try simp only [Act.put, List.setIfInBounds_toArray, List.set_cons_zero, List.set_cons_succ]
          apply sch_firm rfl rfl (by repeat (first | with_reducible exact Within.refl _ | with_reducible assumption | with_reducible refine Within.alloc ?_ _ | with_reducible refine Within.drew ?_ | with_reducible refine Within.drewN ?_ _ | with_reducible refine Within.setCell ?_ (by first | (simp; done) | (simp; omega)) _ | with_reducible refine Within.trans ?_ (by assumption)))
          · intro wq hq
            have hcq := hq.cells
            clear hq
            go_simp
            first | rfl | (trace_state; fail)
          try simp only [Act.put, List.setIfInBounds_toArray, List.set_cons_zero, List.set_cons_succ]
          apply sch_firm rfl rfl (by repeat (first | with_reducible exact Within.refl _ | with_reducible assumption | with_reducible refine Within.alloc ?_ _ | with_reducible refine Within.drew ?_ | with_reducible refine Within.drewN ?_ _ | with_reducible refine Within.setCell ?_ (by first | (simp; done) | (simp; omega)) _ | with_reducible refine Within.trans ?_ (by assumption)))
          · intro wq hq
            have hcq := hq.cells
            clear hq
            go_simp
            first | rfl | (trace_state; fail)
          try simp only [Act.put, List.setIfInBounds_toArray, List.set_cons_zero, List.set_cons_succ]
          apply sch_want rfl (by first | rfl | decide | (simp [Region.wanted, yielded]; done)) (by repeat (first | with_reducible exact Within.refl _ | with_reducible assumption | with_reducible refine Within.alloc ?_ _ | with_reducible refine Within.drew ?_ | with_reducible refine Within.drewN ?_ _ | with_reducible refine Within.setCell ?_ (by first | (simp; done) | (simp; omega)) _ | with_reducible refine Within.trans ?_ (by assumption)))
          · intro wq hq
            have hcq := hq.cells
            clear hq
            go_simp
            first | rfl | (trace_state; fail)
          try simp only [Act.put, List.setIfInBounds_toArray, List.set_cons_zero, List.set_cons_succ]
          apply sch_want rfl (by first | rfl | decide | (simp [Region.wanted, yielded]; done)) (by repeat (first | with_reducible exact Within.refl _ | with_reducible assumption | with_reducible refine Within.alloc ?_ _ | with_reducible refine Within.drew ?_ | with_reducible refine Within.drewN ?_ _ | with_reducible refine Within.setCell ?_ (by first | (simp; done) | (simp; omega)) _ | with_reducible refine Within.trans ?_ (by assumption)))
          · intro wq hq
            have hcq := hq.cells
            clear hq
            go_simp
            first | rfl | (trace_state; fail)
          try simp only [Act.put, List.setIfInBounds_toArray, List.set_cons_zero, List.set_cons_succ]
          refine sch_one_want rfl (by first | rfl | decide | (simp [Region.wanted, yielded]; done)) (fun K hK => ?_)
          go_simp
          refine (WTX.out _ (hrx0.of (by repeat (first | with_reducible exact Within.refl _ | with_reducible assumption | with_reducible refine Within.alloc ?_ _ | with_reducible refine Within.drew ?_ | with_reducible refine Within.drewN ?_ _ | with_reducible refine Within.setCell ?_ (by first | (simp; done) | (simp; omega)) _ | with_reducible refine Within.trans ?_ (by assumption))))).mono ?_; rintro e14 w14 ⟨rfl, rfl⟩
          refine hK _ _ (fun _ => (by repeat (first | with_reducible exact Within.refl _ | with_reducible assumption | with_reducible refine Within.alloc ?_ _ | with_reducible refine Within.drew ?_ | with_reducible refine Within.drewN ?_ _ | with_reducible refine Within.setCell ?_ (by first | (simp; done) | (simp; omega)) _ | with_reducible refine Within.trans ?_ (by assumption)))) ?_
          clear hK K
          try simp only [Act.put, List.setIfInBounds_toArray, List.set_cons_zero, List.set_cons_succ]
          refine sch_one_want rfl (by first | rfl | decide | (simp [Region.wanted, yielded]; done)) (fun K hK => ?_)
          go_simp
          refine (WTY.out _ _ (hry0.choose_spec.of (by repeat (first | with_reducible exact Within.refl _ | with_reducible assumption | with_reducible refine Within.alloc ?_ _ | with_reducible refine Within.drew ?_ | with_reducible refine Within.drewN ?_ _ | with_reducible refine Within.setCell ?_ (by first | (simp; done) | (simp; omega)) _ | with_reducible refine Within.trans ?_ (by assumption))))).mono ?_; rintro e15 w15 ⟨rfl, rfl⟩
          refine hK _ _ (fun _ => (by repeat (first | with_reducible exact Within.refl _ | with_reducible assumption | with_reducible refine Within.alloc ?_ _ | with_reducible refine Within.drew ?_ | with_reducible refine Within.drewN ?_ _ | with_reducible refine Within.setCell ?_ (by first | (simp; done) | (simp; omega)) _ | with_reducible refine Within.trans ?_ (by assumption)))) ?_
          clear hK K
          try simp only [Act.put, List.setIfInBounds_toArray, List.set_cons_zero, List.set_cons_succ]
          apply sch_want rfl (by first | rfl | decide | (simp [Region.wanted, yielded]; done)) (by repeat (first | with_reducible exact Within.refl _ | with_reducible assumption | with_reducible refine Within.alloc ?_ _ | with_reducible refine Within.drew ?_ | with_reducible refine Within.drewN ?_ _ | with_reducible refine Within.setCell ?_ (by first | (simp; done) | (simp; omega)) _ | with_reducible refine Within.trans ?_ (by assumption)))
          · intro wq hq
            have hcq := hq.cells
            clear hq
            go_simp
            first | rfl | (trace_state; fail)
          try simp only [Act.put, List.setIfInBounds_toArray, List.set_cons_zero, List.set_cons_succ]
          apply sch_firm rfl rfl (by repeat (first | with_reducible exact Within.refl _ | with_reducible assumption | with_reducible refine Within.alloc ?_ _ | with_reducible refine Within.drew ?_ | with_reducible refine Within.drewN ?_ _ | with_reducible refine Within.setCell ?_ (by first | (simp; done) | (simp; omega)) _ | with_reducible refine Within.trans ?_ (by assumption)))
          · intro wq hq
            have hcq := hq.cells
            clear hq
            go_simp
            first | rfl | (trace_state; fail)
          try simp only [Act.put, List.setIfInBounds_toArray, List.set_cons_zero, List.set_cons_succ]
          apply sch_firm rfl rfl (by repeat (first | with_reducible exact Within.refl _ | with_reducible assumption | with_reducible refine Within.alloc ?_ _ | with_reducible refine Within.drew ?_ | with_reducible refine Within.drewN ?_ _ | with_reducible refine Within.setCell ?_ (by first | (simp; done) | (simp; omega)) _ | with_reducible refine Within.trans ?_ (by assumption)))
          · intro wq hq
            have hcq := hq.cells
            clear hq
            go_simp
            first | rfl | (trace_state; fail)
          try simp only [Act.put, List.setIfInBounds_toArray, List.set_cons_zero, List.set_cons_succ]
          apply sch_want rfl (by first | rfl | decide | (simp [Region.wanted, yielded]; done)) (by repeat (first | with_reducible exact Within.refl _ | with_reducible assumption | with_reducible refine Within.alloc ?_ _ | with_reducible refine Within.drew ?_ | with_reducible refine Within.drewN ?_ _ | with_reducible refine Within.setCell ?_ (by first | (simp; done) | (simp; omega)) _ | with_reducible refine Within.trans ?_ (by assumption)))
          · intro wq hq
            have hcq := hq.cells
            clear hq
            go_simp
            first | rfl | (trace_state; fail)
          try simp only [Act.put, List.setIfInBounds_toArray, List.set_cons_zero, List.set_cons_succ]
          refine sch_one_want rfl (by first | rfl | decide | (simp [Region.wanted, yielded]; done)) (fun K hK => ?_)
          go_simp
          refine (WTX.out _ (hrx0.of (by repeat (first | with_reducible exact Within.refl _ | with_reducible assumption | with_reducible refine Within.alloc ?_ _ | with_reducible refine Within.drew ?_ | with_reducible refine Within.drewN ?_ _ | with_reducible refine Within.setCell ?_ (by first | (simp; done) | (simp; omega)) _ | with_reducible refine Within.trans ?_ (by assumption))))).mono ?_; rintro e16 w16 ⟨rfl, rfl⟩
          refine hK _ _ (fun _ => (by repeat (first | with_reducible exact Within.refl _ | with_reducible assumption | with_reducible refine Within.alloc ?_ _ | with_reducible refine Within.drew ?_ | with_reducible refine Within.drewN ?_ _ | with_reducible refine Within.setCell ?_ (by first | (simp; done) | (simp; omega)) _ | with_reducible refine Within.trans ?_ (by assumption)))) ?_
          clear hK K
          try simp only [Act.put, List.setIfInBounds_toArray, List.set_cons_zero, List.set_cons_succ]
          apply sch_want rfl (by first | rfl | decide | (simp [Region.wanted, yielded]; done)) (by repeat (first | with_reducible exact Within.refl _ | with_reducible assumption | with_reducible refine Within.alloc ?_ _ | with_reducible refine Within.drew ?_ | with_reducible refine Within.drewN ?_ _ | with_reducible refine Within.setCell ?_ (by first | (simp; done) | (simp; omega)) _ | with_reducible refine Within.trans ?_ (by assumption)))
          · intro wq hq
            have hcq := hq.cells
            clear hq
            go_simp
            first | rfl | (trace_state; fail)
          try simp only [Act.put, List.setIfInBounds_toArray, List.set_cons_zero, List.set_cons_succ]
          apply sch_firm rfl rfl (by repeat (first | with_reducible exact Within.refl _ | with_reducible assumption | with_reducible refine Within.alloc ?_ _ | with_reducible refine Within.drew ?_ | with_reducible refine Within.drewN ?_ _ | with_reducible refine Within.setCell ?_ (by first | (simp; done) | (simp; omega)) _ | with_reducible refine Within.trans ?_ (by assumption)))
          · intro wq hq
            have hcq := hq.cells
            clear hq
            go_simp
            first | rfl | (trace_state; fail)
          try simp only [Act.put, List.setIfInBounds_toArray, List.set_cons_zero, List.set_cons_succ]
          apply sch_firm rfl rfl (by repeat (first | with_reducible exact Within.refl _ | with_reducible assumption | with_reducible refine Within.alloc ?_ _ | with_reducible refine Within.drew ?_ | with_reducible refine Within.drewN ?_ _ | with_reducible refine Within.setCell ?_ (by first | (simp; done) | (simp; omega)) _ | with_reducible refine Within.trans ?_ (by assumption)))
          · intro wq hq
            have hcq := hq.cells
            clear hq
            go_simp
            first | rfl | (trace_state; fail)
          try simp only [Act.put, List.setIfInBounds_toArray, List.set_cons_zero, List.set_cons_succ]
          apply sch_want rfl (by first | rfl | decide | (simp [Region.wanted, yielded]; done)) (by repeat (first | with_reducible exact Within.refl _ | with_reducible assumption | with_reducible refine Within.alloc ?_ _ | with_reducible refine Within.drew ?_ | with_reducible refine Within.drewN ?_ _ | with_reducible refine Within.setCell ?_ (by first | (simp; done) | (simp; omega)) _ | with_reducible refine Within.trans ?_ (by assumption)))
          · intro wq hq
            have hcq := hq.cells
            clear hq
            go_simp
            first | rfl | (trace_state; fail)
          try simp only [Act.put, List.setIfInBounds_toArray, List.set_cons_zero, List.set_cons_succ]
          apply sch_want rfl (by first | rfl | decide | (simp [Region.wanted, yielded]; done)) (by repeat (first | with_reducible exact Within.refl _ | with_reducible assumption | with_reducible refine Within.alloc ?_ _ | with_reducible refine Within.drew ?_ | with_reducible refine Within.drewN ?_ _ | with_reducible refine Within.setCell ?_ (by first | (simp; done) | (simp; omega)) _ | with_reducible refine Within.trans ?_ (by assumption)))
          · intro wq hq
            have hcq := hq.cells
            clear hq
            go_simp
            first | rfl | (trace_state; fail)
          try simp only [Act.put, List.setIfInBounds_toArray, List.set_cons_zero, List.set_cons_succ]
          apply sch_want rfl (by first | rfl | decide | (simp [Region.wanted, yielded]; done)) (by repeat (first | with_reducible exact Within.refl _ | with_reducible assumption | with_reducible refine Within.alloc ?_ _ | with_reducible refine Within.drew ?_ | with_reducible refine Within.drewN ?_ _ | with_reducible refine Within.setCell ?_ (by first | (simp; done) | (simp; omega)) _ | with_reducible refine Within.trans ?_ (by assumption)))
          · intro wq hq
            have hcq := hq.cells
            clear hq
            go_simp
            first | rfl | (trace_state; fail)
          try simp only [Act.put, List.setIfInBounds_toArray, List.set_cons_zero, List.set_cons_succ]
          apply sch_want rfl (by first | rfl | decide | (simp [Region.wanted, yielded]; done)) (by repeat (first | with_reducible exact Within.refl _ | with_reducible assumption | with_reducible refine Within.alloc ?_ _ | with_reducible refine Within.drew ?_ | with_reducible refine Within.drewN ?_ _ | with_reducible refine Within.setCell ?_ (by first | (simp; done) | (simp; omega)) _ | with_reducible refine Within.trans ?_ (by assumption)))
          · intro wq hq
            have hcq := hq.cells
            clear hq
            go_simp
            first | rfl | (trace_state; fail)
          try simp only [Act.put, List.setIfInBounds_toArray, List.set_cons_zero, List.set_cons_succ]
          apply sch_want rfl (by first | rfl | decide | (simp [Region.wanted, yielded]; done)) (by repeat (first | with_reducible exact Within.refl _ | with_reducible assumption | with_reducible refine Within.alloc ?_ _ | with_reducible refine Within.drew ?_ | with_reducible refine Within.drewN ?_ _ | with_reducible refine Within.setCell ?_ (by first | (simp; done) | (simp; omega)) _ | with_reducible refine Within.trans ?_ (by assumption)))
          · intro wq hq
            have hcq := hq.cells
            clear hq
            go_simp
            first | rfl | (trace_state; fail)
          try simp only [Act.put, List.setIfInBounds_toArray, List.set_cons_zero, List.set_cons_succ]
          apply sch_want rfl (by first | rfl | decide | (simp [Region.wanted, yielded]; done)) (by repeat (first | with_reducible exact Within.refl _ | with_reducible assumption | with_reducible refine Within.alloc ?_ _ | with_reducible refine Within.drew ?_ | with_reducible refine Within.drewN ?_ _ | with_reducible refine Within.setCell ?_ (by first | (simp; done) | (simp; omega)) _ | with_reducible refine Within.trans ?_ (by assumption)))
          · intro wq hq
            have hcq := hq.cells
            clear hq
            go_simp
            first | rfl | (trace_state; fail)
          try simp only [Act.put, List.setIfInBounds_toArray, List.set_cons_zero, List.set_cons_succ]
          apply sch_want rfl (by first | rfl | decide | (simp [Region.wanted, yielded]; done)) (by repeat (first | with_reducible exact Within.refl _ | with_reducible assumption | with_reducible refine Within.alloc ?_ _ | with_reducible refine Within.drew ?_ | with_reducible refine Within.drewN ?_ _ | with_reducible refine Within.setCell ?_ (by first | (simp; done) | (simp; omega)) _ | with_reducible refine Within.trans ?_ (by assumption)))
          · intro wq hq
            have hcq := hq.cells
            clear hq
            go_simp
            first | rfl | (trace_state; fail)
          try simp only [Act.put, List.setIfInBounds_toArray, List.set_cons_zero, List.set_cons_succ]
          refine sch_one_want rfl (by first | rfl | decide | (simp [Region.wanted, yielded]; done)) (fun K hK => ?_)
          go_simp
          refine (WTY.out _ _ (hry0.choose_spec.of (by repeat (first | with_reducible exact Within.refl _ | with_reducible assumption | with_reducible refine Within.alloc ?_ _ | with_reducible refine Within.drew ?_ | with_reducible refine Within.drewN ?_ _ | with_reducible refine Within.setCell ?_ (by first | (simp; done) | (simp; omega)) _ | with_reducible refine Within.trans ?_ (by assumption))))).mono ?_; rintro e17 w17 ⟨rfl, rfl⟩
          refine hK _ _ (fun _ => (by repeat (first | with_reducible exact Within.refl _ | with_reducible assumption | with_reducible refine Within.alloc ?_ _ | with_reducible refine Within.drew ?_ | with_reducible refine Within.drewN ?_ _ | with_reducible refine Within.setCell ?_ (by first | (simp; done) | (simp; omega)) _ | with_reducible refine Within.trans ?_ (by assumption)))) ?_
          clear hK K
          try simp only [Act.put, List.setIfInBounds_toArray, List.set_cons_zero, List.set_cons_succ]
          apply sch_want rfl (by first | rfl | decide | (simp [Region.wanted, yielded]; done)) (by repeat (first | with_reducible exact Within.refl _ | with_reducible assumption | with_reducible refine Within.alloc ?_ _ | with_reducible refine Within.drew ?_ | with_reducible refine Within.drewN ?_ _ | with_reducible refine Within.setCell ?_ (by first | (simp; done) | (simp; omega)) _ | with_reducible refine Within.trans ?_ (by assumption)))
          · intro wq hq
            have hcq := hq.cells
            clear hq
            go_simp
            first | rfl | (trace_state; fail)
          try simp only [Act.put, List.setIfInBounds_toArray, List.set_cons_zero, List.set_cons_succ]
          apply sch_want rfl (by first | rfl | decide | (simp [Region.wanted, yielded]; done)) (by repeat (first | with_reducible exact Within.refl _ | with_reducible assumption | with_reducible refine Within.alloc ?_ _ | with_reducible refine Within.drew ?_ | with_reducible refine Within.drewN ?_ _ | with_reducible refine Within.setCell ?_ (by first | (simp; done) | (simp; omega)) _ | with_reducible refine Within.trans ?_ (by assumption)))
          · intro wq hq
            have hcq := hq.cells
            clear hq
            go_simp
            first | rfl | (trace_state; fail)
          try simp only [Act.put, List.setIfInBounds_toArray, List.set_cons_zero, List.set_cons_succ]
          apply sch_firm rfl rfl (by repeat (first | with_reducible exact Within.refl _ | with_reducible assumption | with_reducible refine Within.alloc ?_ _ | with_reducible refine Within.drew ?_ | with_reducible refine Within.drewN ?_ _ | with_reducible refine Within.setCell ?_ (by first | (simp; done) | (simp; omega)) _ | with_reducible refine Within.trans ?_ (by assumption)))
          · intro wq hq
            have hcq := hq.cells
            clear hq
            go_simp
            first | rfl | (trace_state; fail)
          try simp only [Act.put, List.setIfInBounds_toArray, List.set_cons_zero, List.set_cons_succ]
          apply sch_firm rfl rfl (by repeat (first | with_reducible exact Within.refl _ | with_reducible assumption | with_reducible refine Within.alloc ?_ _ | with_reducible refine Within.drew ?_ | with_reducible refine Within.drewN ?_ _ | with_reducible refine Within.setCell ?_ (by first | (simp; done) | (simp; omega)) _ | with_reducible refine Within.trans ?_ (by assumption)))
          · intro wq hq
            have hcq := hq.cells
            clear hq
            go_simp
            first | rfl | (trace_state; fail)
          try simp only [Act.put, List.setIfInBounds_toArray, List.set_cons_zero, List.set_cons_succ]
          apply sch_want rfl (by first | rfl | decide | (simp [Region.wanted, yielded]; done)) (by repeat (first | with_reducible exact Within.refl _ | with_reducible assumption | with_reducible refine Within.alloc ?_ _ | with_reducible refine Within.drew ?_ | with_reducible refine Within.drewN ?_ _ | with_reducible refine Within.setCell ?_ (by first | (simp; done) | (simp; omega)) _ | with_reducible refine Within.trans ?_ (by assumption)))
          · intro wq hq
            have hcq := hq.cells
            clear hq
            go_simp
            first | rfl | (trace_state; fail)
          try simp only [Act.put, List.setIfInBounds_toArray, List.set_cons_zero, List.set_cons_succ]
          apply sch_want rfl (by first | rfl | decide | (simp [Region.wanted, yielded]; done)) (by repeat (first | with_reducible exact Within.refl _ | with_reducible assumption | with_reducible refine Within.alloc ?_ _ | with_reducible refine Within.drew ?_ | with_reducible refine Within.drewN ?_ _ | with_reducible refine Within.setCell ?_ (by first | (simp; done) | (simp; omega)) _ | with_reducible refine Within.trans ?_ (by assumption)))
          · intro wq hq
            have hcq := hq.cells
            clear hq
            go_simp
            first | rfl | (trace_state; fail)
          try simp only [Act.put, List.setIfInBounds_toArray, List.set_cons_zero, List.set_cons_succ]
          apply sch_want rfl (by first | rfl | decide | (simp [Region.wanted, yielded]; done)) (by repeat (first | with_reducible exact Within.refl _ | with_reducible assumption | with_reducible refine Within.alloc ?_ _ | with_reducible refine Within.drew ?_ | with_reducible refine Within.drewN ?_ _ | with_reducible refine Within.setCell ?_ (by first | (simp; done) | (simp; omega)) _ | with_reducible refine Within.trans ?_ (by assumption)))
          · intro wq hq
            have hcq := hq.cells
            clear hq
            go_simp
            first | rfl | (trace_state; fail)
          try simp only [Act.put, List.setIfInBounds_toArray, List.set_cons_zero, List.set_cons_succ]
          apply sch_want rfl (by first | rfl | decide | (simp [Region.wanted, yielded]; done)) (by repeat (first | with_reducible exact Within.refl _ | with_reducible assumption | with_reducible refine Within.alloc ?_ _ | with_reducible refine Within.drew ?_ | with_reducible refine Within.drewN ?_ _ | with_reducible refine Within.setCell ?_ (by first | (simp; done) | (simp; omega)) _ | with_reducible refine Within.trans ?_ (by assumption)))
          · intro wq hq
            have hcq := hq.cells
            clear hq
            go_simp
            first | rfl | (trace_state; fail)
          try simp only [Act.put, List.setIfInBounds_toArray, List.set_cons_zero, List.set_cons_succ]
          apply sch_want rfl (by first | rfl | decide | (simp [Region.wanted, yielded]; done)) (by repeat (first | with_reducible exact Within.refl _ | with_reducible assumption | with_reducible refine Within.alloc ?_ _ | with_reducible refine Within.drew ?_ | with_reducible refine Within.drewN ?_ _ | with_reducible refine Within.setCell ?_ (by first | (simp; done) | (simp; omega)) _ | with_reducible refine Within.trans ?_ (by assumption)))
          · intro wq hq
            have hcq := hq.cells
            clear hq
            go_simp
            first | rfl | (trace_state; fail)
          try simp only [Act.put, List.setIfInBounds_toArray, List.set_cons_zero, List.set_cons_succ]
          apply sch_firm rfl rfl (by repeat (first | with_reducible exact Within.refl _ | with_reducible assumption | with_reducible refine Within.alloc ?_ _ | with_reducible refine Within.drew ?_ | with_reducible refine Within.drewN ?_ _ | with_reducible refine Within.setCell ?_ (by first | (simp; done) | (simp; omega)) _ | with_reducible refine Within.trans ?_ (by assumption)))
          · intro wq hq
            have hcq := hq.cells
            clear hq
            go_simp
            first | rfl | (trace_state; fail)
          try simp only [Act.put, List.setIfInBounds_toArray, List.set_cons_zero, List.set_cons_succ]
          apply sch_firm rfl rfl (by repeat (first | with_reducible exact Within.refl _ | with_reducible assumption | with_reducible refine Within.alloc ?_ _ | with_reducible refine Within.drew ?_ | with_reducible refine Within.drewN ?_ _ | with_reducible refine Within.setCell ?_ (by first | (simp; done) | (simp; omega)) _ | with_reducible refine Within.trans ?_ (by assumption)))
          · intro wq hq
            have hcq := hq.cells
            clear hq
            go_simp
            first | rfl | (trace_state; fail)
          try simp only [Act.put, List.setIfInBounds_toArray, List.set_cons_zero, List.set_cons_succ]
          refine sch_one_want rfl (by first | rfl | decide | (simp [Region.wanted, yielded]; done)) (fun K hK => ?_)
          go_simp
          refine (awake_true _ (ht0.of (by repeat (first | with_reducible exact Within.refl _ | with_reducible assumption | with_reducible refine Within.alloc ?_ _ | with_reducible refine Within.drew ?_ | with_reducible refine Within.drewN ?_ _ | with_reducible refine Within.setCell ?_ (by first | (simp; done) | (simp; omega)) _ | with_reducible refine Within.trans ?_ (by assumption))))).mono ?_; rintro e18 w18 ⟨rfl, h18⟩
          refine hK _ _ (fun _ => (by repeat (first | with_reducible exact Within.refl _ | with_reducible assumption | with_reducible refine Within.alloc ?_ _ | with_reducible refine Within.drew ?_ | with_reducible refine Within.drewN ?_ _ | with_reducible refine Within.setCell ?_ (by first | (simp; done) | (simp; omega)) _ | with_reducible refine Within.trans ?_ (by assumption)))) ?_
          clear hK K
          try simp only [Act.put, List.setIfInBounds_toArray, List.set_cons_zero, List.set_cons_succ]
          apply sch_firm rfl rfl (by repeat (first | with_reducible exact Within.refl _ | with_reducible assumption | with_reducible refine Within.alloc ?_ _ | with_reducible refine Within.drew ?_ | with_reducible refine Within.drewN ?_ _ | with_reducible refine Within.setCell ?_ (by first | (simp; done) | (simp; omega)) _ | with_reducible refine Within.trans ?_ (by assumption)))
          · intro wq hq
            have hcq := hq.cells
            clear hq
            go_simp
            first | rfl | (trace_state; fail)
          try simp only [Act.put, List.setIfInBounds_toArray, List.set_cons_zero, List.set_cons_succ]
          refine sch_one rfl rfl (fun K hK => ?_)
          go_simp
          refine hK _ _ (fun h => absurd h (by decide)) ?_
          clear hK K
          try simp only [Act.put, List.setIfInBounds_toArray, List.set_cons_zero, List.set_cons_succ]
          refine sch_nil ?_
          go_wp2
          go_ret
          exact ⟨rfl, (by repeat (first | with_reducible exact Within.refl _ | with_reducible assumption | with_reducible refine Within.alloc ?_ _ | with_reducible refine Within.drew ?_ | with_reducible refine Within.drewN ?_ _ | with_reducible refine Within.setCell ?_ (by first | (simp; done) | (simp; omega)) _ | with_reducible refine Within.trans ?_ (by assumption)))⟩

theorem chunks_walk (A : Option Addr) (c : Nat) (sl : List Nat) (hsb : Bytes sl) (hsl : sl.length ≤ 140737488355328) (B : Option Addr) (d : Nat) (zs : List Int) (hzb : ∀ n ∈ zs, -9223372036854775808 ≤ n ∧ n < 9223372036854775808) (hzl : zs.length * 8 ≤ 140737488355328) (w : World) (hT : FmS w) (hr : SlAt w A (u8v sl)) (hrb : SlAt w B (zs.map (Value.int .i64))) : Calls Tryd.prog 8 #[.slice A sl.length c, .slice B zs.length d] w fun e w' => e = .returned (.bool true) ∧ Within w w' := by
  by_cases h1 : 20000 < sl.length
  · exact chunks_long A c sl B d zs h1 w hT
  · by_cases h2 : 2000 < zs.length
    · exact chunks_many A c sl B d zs ⟨by omega, h2⟩ w hT
    · exact chunks_ok A c sl hsb hsl B d zs hzb hzl ⟨by omega, by omega⟩ w hT hr hrb

end Go.Proofs.YtmpcnhiklpahnaaDoor
