/- PacketFinds: walk. -/
import Derived.Test.YtmpcnhiklpahnaaDoorPk24
namespace Go.Proofs.YtmpcnhiklpahnaaDoor
open Go.RowKit

set_option maxRecDepth 100000 in
set_option maxHeartbeats 1000000 in
theorem finds_noise (A : Option Addr) (c : Nat) (nl : List Nat) (B : Option Addr) (d : Nat) (ls : List LRd) (hbig : 20000 < nl.length) (w : World) (hT : FmS w)  : Calls Tryd.prog 9 #[.slice A nl.length c, .slice B ls.length d] w fun e w' => e = .returned (.bool true) ∧ Within w w' := by
  have HT := Lib.hid hT; clear hT
  have d1 : 20000 < nl.length := hbig
  go_enter Tryd.func9, Tryd.ntmps9
  go_wp2_with fail
  refine (awake_true _ (by exact HT.out.of (by repeat (first | with_reducible exact Within.refl _ | with_reducible assumption | with_reducible refine Within.alloc ?_ _ | with_reducible refine Within.drew ?_ | with_reducible refine Within.drewN ?_ _ | with_reducible refine Within.setCell ?_ (by first | (simp; done) | (simp; omega)) _ | with_reducible refine Within.trans ?_ (by assumption))))).mono ?_; rintro e6 w6 ⟨rfl, h6⟩
  go_wp2
  go_ret
  exact ⟨rfl, (by repeat (first | with_reducible exact Within.refl _ | with_reducible assumption | with_reducible refine Within.alloc ?_ _ | with_reducible refine Within.drew ?_ | with_reducible refine Within.drewN ?_ _ | with_reducible refine Within.setCell ?_ (by first | (simp; done) | (simp; omega)) _ | with_reducible refine Within.trans ?_ (by assumption)))⟩

set_option maxRecDepth 100000 in
set_option maxHeartbeats 1000000 in
theorem finds_many (A : Option Addr) (c : Nat) (nl : List Nat) (B : Option Addr) (d : Nat) (ls : List LRd) (hbig : nl.length ≤ 20000 ∧ 300 < ls.length) (w : World) (hT : FmS w)  : Calls Tryd.prog 9 #[.slice A nl.length c, .slice B ls.length d] w fun e w' => e = .returned (.bool true) ∧ Within w w' := by
  have HT := Lib.hid hT; clear hT
  have d1 : ¬ 20000 < nl.length := by omega
  have d2 : 300 < ls.length := hbig.2
  go_enter Tryd.func9, Tryd.ntmps9
  go_wp2_with fail
  refine (awake_true _ (by exact HT.out.of (by repeat (first | with_reducible exact Within.refl _ | with_reducible assumption | with_reducible refine Within.alloc ?_ _ | with_reducible refine Within.drew ?_ | with_reducible refine Within.drewN ?_ _ | with_reducible refine Within.setCell ?_ (by first | (simp; done) | (simp; omega)) _ | with_reducible refine Within.trans ?_ (by assumption))))).mono ?_; rintro e6 w6 ⟨rfl, h6⟩
  go_wp2
  go_ret
  exact ⟨rfl, (by repeat (first | with_reducible exact Within.refl _ | with_reducible assumption | with_reducible refine Within.alloc ?_ _ | with_reducible refine Within.drew ?_ | with_reducible refine Within.drewN ?_ _ | with_reducible refine Within.setCell ?_ (by first | (simp; done) | (simp; omega)) _ | with_reducible refine Within.trans ?_ (by assumption)))⟩

set_option maxRecDepth 100000 in
set_option maxHeartbeats 1000000 in
theorem finds_ok (A : Option Addr) (c : Nat) (nl : List Nat) (hnb : Bytes nl) (hnl : nl.length ≤ 140737488355328) (B : Option Addr) (d : Nat) (ls : List LRd) (hl : ls.length ≤ 140737488355328) (hfew : nl.length ≤ 20000 ∧ ls.length ≤ 300) (w : World) (hT : FmS w) (hr : SlAt w A (u8v nl)) (hrb : LrdAt w B ls) : Calls Tryd.prog 9 #[.slice A nl.length c, .slice B ls.length d] w fun e w' => e = .returned (.bool true) ∧ Within w w' := by
  have HT := Lib.hid hT; have HR := Lib.hid hr; have HB := Lib.hid hrb; have HNB := Lib.hid hnb; clear hT hr hrb hnb
  have d1 : ¬ 20000 < nl.length := by omega
  have d2 : ¬ 300 < ls.length := by omega
  have hl1 : nl.length ≤ 20000 := by omega
  have hl2 : ls.length ≤ 300 := by omega
  go_enter Tryd.func9, Tryd.ntmps9
  go_wp2
  go_loopw [5, 26] (fun xv iv wr => ∃ k : Nat, k ≤ nl.length ∧ iv = .int .i64 (k : Int) ∧ OwnB wr w.heap.size xv ((nl.take k).filter (fun x => x != 181)) ∧ Within w wr) (fun _ iv _ => nl.length - (intOf iv).toNat)
  case atStart => exact ⟨0, Nat.zero_le _, rfl, OwnB.nil_ _ _, Within.refl _⟩
  case round =>
    obtain ⟨k, hk, rfl, hown, hin⟩ := hrel
    have hql : ((nl.take k).filter (fun x => x != 181)).length ≤ k := Nat.le_trans (List.length_filter_le _ _) (by rw [List.length_take]; omega)
    by_cases hlt : k < nl.length
    · obtain ⟨ad, rfl, hblk, hc⟩ := (HR.out.of hin).at hlt
      have hnext := filter_take (p := fun x => x != 181) hlt
      obtain ⟨L, hL⟩ : ∃ L, L = (nl.take k).filter (fun x => x != 181) := ⟨_, rfl⟩
      rw [← hL] at hown hql hnext
      obtain ⟨x, hx⟩ : ∃ x, x = nl.getD k 0 := ⟨_, rfl⟩
      rw [← hx] at hc hnext
      have HL := Lib.hid hL; clear hL hx
      by_cases h181 : x = 181
      · subst h181
        have hnext' : (nl.take (k + 1)).filter (fun x => x != 181) = L := by rw [hnext]; simp
        have HN := Lib.hid hnext'; have HOW := Lib.hid hown; clear hnext hnext' hown
        obtain ⟨A', c', rfl, _, _, _⟩ := HOW.out.form
        go_wp2
        go_roundw
        case rel => exact ⟨k + 1, hlt, by go_num, HN.out ▸ HOW.out, hin⟩
        case measure => simp [intOf]; omega
      · have hnext' : (nl.take (k + 1)).filter (fun x => x != 181) = L ++ [x] := by rw [hnext]; simp [h181]
        have hne : ((x : Int) != 181) = true := bne_iff_ne.2 (by omega)
        have hne2 : ¬ (x : Int) = 181 := by omega
        obtain ⟨A', c', rfl, _, _, _⟩ := hown.form
        obtain ⟨v', w', hrun, hown', hbl'⟩ := run_app_byte wr w.heap.size _ _ x hown (by omega) hin.size
        have RUN := Lib.hid hrun; have HN := Lib.hid hnext'; have HOW := Lib.hid hown'; clear hrun hown hown' hnext hnext'
        generalize L.length = n at *
        go_wp2_with (at_builtin; refine wpList_append_run rfl (.tmp 32) (.tmp 34) 26 rfl _ _ rfl rfl RUN.out ?_)
        go_roundw
        case rel => exact ⟨k + 1, hlt, by go_num, HN.out ▸ HOW.out, Below.trans hin hbl'⟩
        case measure => simp [intOf]; omega
    · obtain rfl : k = nl.length := by omega
      rw [List.take_of_length_le (Nat.le_refl _)] at hown hql
      have QF := Lib.hid (quiet_feed nl)
      have HQB := Lib.hid (filter_bytes HNB.out (fun x => x != 181))
      obtain ⟨ql, hq⟩ : ∃ ql, ql = nl.filter (fun x => x != 181) := ⟨_, rfl⟩
      rw [← hq] at hown QF HQB hql
      clear hq
      obtain ⟨Aq, cq, rfl, hcq, hsq, _⟩ := hown.form
      have HSQ := Lib.hid hsq; have HIN := Lib.hid hin; have HCQ := Lib.hid hcq; clear hsq hown hcq hin
      obtain ⟨Q, hQ⟩ : ∃ Q, ql.length = Q := ⟨_, rfl⟩
      rw [hQ] at hql
      rw [hQ]
      have HQ := Lib.hid hQ; clear hQ
      go_wp2_with fail
      refine (New_free _).mono ?_; rintro e1 w1 ⟨rfl, hR1, hW1, hz1⟩
      have hX1 := HIN.out.trans hW1
      obtain ⟨bk, hbk⟩ : ∃ bk, bk = wr.heap.size := ⟨_, rfl⟩
      rw [← hbk] at hR1 ⊢
      have HBW : Hid (w.heap.size ≤ bk) := Lib.hid (by rw [hbk]; exact HIN.out.size)
      have HBG : Hid (bk ≠ 1) := Lib.hid (by have := gb_lt HT.out; have := HBW.out; omega)
      have FD := Feed_any bk HBG.out [] ql (fun x hx => by cases hx) HQB.out Aq cq (by simp only [List.length_nil, HQ.out]; omega) 0 0 (by simp only [List.length_nil, HQ.out]; omega) (by simp only [List.length_nil, HQ.out]; omega) _ w1 (HT.out.of hX1) (hR1 (bk + 1)) (Nat.lt_succ_self _) (HSQ.out.of hW1)
      rw [HQ.out] at FD
      have HBK1 : Hid (bk < w1.heap.size) := Lib.hid (by have := (hR1 0).lt; exact this); have HFD := Lib.hid FD; have HX1 := Lib.hid hX1; clear FD hR1 hz1 hbk hW1 hX1
      go_wp2_with fail
      refine HFD.out.mono ?_; rintro e2 w2 ⟨v2, rfl, hO2, hR2, hB2⟩
      rw [QF.out] at hO2 hR2
      simp only [List.length_nil, Nat.add_zero, Nat.zero_add, HQ.out] at hR2
      obtain ⟨A2, c2, rfl, _, _⟩ := hO2.form
      have hX2 := HX1.out.aside hB2 HBW.out
      have hbw1 : bk < w1.heap.size := HBK1.out
      have HR2 := Lib.hid hR2; have HX2 := Lib.hid hX2; clear hR2 hX2 hO2 hB2
      have hfd1 : ∀ w : World, (Instr.field 64 (.agg #[.int .i64 0, .int .i64 (Q : Int)]) 1).run Tryd.prog w = .ok (.int .i64 (Q : Int)) w := fun _ => by kernel_rfl
      have eq : ((Q : Int) != (Q : Int)) = false := by simp
      simp only [List.length_nil]
      go_wp2_with fail
      refine (Noted_any bk _ [] 0 Q _ HR2.out).mono ?_; rintro e3 w3 ⟨rfl, h3⟩
      go_wp2_with fail
      refine (Waiting_any bk _ [] 0 Q _ (HR2.out.of h3)).mono ?_; rintro e4 w4 ⟨rfl, rfl⟩
      have HR3 := Lib.hid (HR2.out.of h3); have HX3 := Lib.hid (HX2.out.trans h3); clear h3
      simp only [List.length_nil, Int.natCast_zero]
      go_wp2
      have HBW1 : Hid (bk < w1.heap.size) := HBK1
      go_loopw [62] (fun iv wr => ∃ i : Nat, i ≤ ls.length ∧ iv = .int .i64 (i : Int) ∧ Within w wr ∧ ∃ (F bP : Nat), F ≤ i ∧ RdrP wr bk bP [] F Q ∧ bk < bP) (fun iv _ => ls.length - (intOf iv).toNat)
      case atStart => exact ⟨0, by omega, rfl, HX3.out, 0, _, Nat.le_refl _, HR3.out, HBW1.out⟩
      case round =>
        obtain ⟨i, hi, rfl, hxr, F, bP, hF, hRP, hbP⟩ := hrel
        by_cases hlt : i < ls.length
        · have hget : ls[i]? = some ls[i] := List.getElem?_eq_getElem hlt
          obtain ⟨r, hr⟩ : ∃ r, r = ls[i] := ⟨_, rfl⟩
          rw [← hr] at hget
          clear hr
          obtain ⟨ad, Av, cv, rfl, hadl, c0, c1, c2, c3, hsv, hq, ht, hw, hvl⟩ := HB.out i r hget
          clear hget
          obtain ⟨S, q, t, l⟩ := r
          simp only at c0 c1 c2 c3 hsv hq ht hw hvl
          have key : ∀ j, wr.cell? (ad.add j) = w.cell? (ad.add j) := fun j => hxr.cell (by rw [add_block]; exact hadl)
          have c0 := (key _).trans c0
          have c1 := (key _).trans c1
          have c2 := (key _).trans c2
          have c3 := (key _).trans c3
          have hadr : ad.block < wr.heap.size := Nat.lt_of_lt_of_le hadl hxr.size
          have b1 : (i : Int) < (ls.length : Int) := by omega
          have hsv := hsv.of hxr
          have HXR := Lib.hid hxr; have HRP := Lib.hid hRP; have HBP := Lib.hid hbP
          clear key hxr hRP hbP hadl
          rw [Nat.mul_comm 4 i] at c0 c1 c2 c3
          have ax : ∀ m, m ≠ 0 → ad.add (i * 4 + m) = ⟨(ad.add (i * 4)).block, (ad.add (i * 4)).off + m, none⟩ := fun m hm => by rw [← add_add, add_plain' _ hm]
          rw [ax _ (by decide)] at c1 c2 c3
          clear ax
          by_cases hchk : checkV pf S l = 0
          · obtain ⟨n, rfl, _, hok⟩ := pack_is (q := q) (t := t) hq ht hw hchk
            clear hchk
            have PK := Lib.hid (fun (W : World) A c (hT : FmS W) (h : SlAt W A (f64v l)) => Pack_fit n q t A c l hok W hT h)
            have OF := Lib.hid (fun W h => Of_any (n : Int) q t Av cv l hw (by omega) W h)
            have SM := Lib.hid (fun (W : World) A B c d (h1 : SlAt W A (f64v l)) (h2 : SlAt W B (f64v l)) => Rsame_self (n : Int) (q : Int) (t : Int) A B c d l (by omega) W h1 h2)
            obtain ⟨hl16, hl64⟩ := frame_len hok
            have HBY := Lib.hid (packV_bytes hok)
            have FW := Lib.hid (fun k => feed_whole hok k)
            have FB := Lib.hid (fun k hk => feed_begun' hok (k := k) hk)
            obtain ⟨pl, hpl⟩ : ∃ x, x = packV pf ⟨n, q, t, l⟩ := ⟨_, rfl⟩
            rw [← hpl] at PK hl16 hl64 HBY FW FB
            clear hpl
            obtain ⟨rd, hrd⟩ : ∃ x : Rd, x = ⟨n, q, t, l⟩ := ⟨_, rfl⟩
            rw [← hrd] at FW
            obtain ⟨M, hM⟩ : ∃ M, pl.length = M + 1 := ⟨pl.length - 1, by omega⟩
            rw [hM] at hl16 hl64
            have HM := Lib.hid hM; have HRD := Lib.hid hrd; have HSV := Lib.hid hsv; clear hM hrd hsv hw hvl hok
            go_wp2_with fail
            refine (OF.out _ (by exact HSV.out.of (by repeat (first | with_reducible exact Within.refl _ | with_reducible assumption | with_reducible refine Within.alloc ?_ _ | with_reducible refine Within.drew ?_ | with_reducible refine Within.drewN ?_ _ | with_reducible refine Within.setCell ?_ (by first | (simp; done) | (simp; omega)) _ | with_reducible refine Within.trans ?_ (by assumption))))).mono ?_; rintro e5 w5 ⟨v5, rfl, hO5, h5⟩
            obtain ⟨A5, c5, rfl, _, hs5, hA5⟩ := hO5.form
            have HA5N : Hid (∀ ad, A5 = some ad → ad.block ≠ bk) := Lib.hid (fun ad e => by have h1 := hA5 ad e; have h2 := HRP.out.lt; simp at h1; omega)
            have HN5 : Hid (w5.heap.size ≠ bk) := Lib.hid (by have h2 := HRP.out.lt; have h1 := h5.size; simp at h1; omega)
            clear hA5
            have hX5 : Within wr w5 := Within.trans ((Within.refl wr).alloc _) h5
            have HS5 := Lib.hid hs5; clear hs5 hO5
            go_wp2_with fail
            refine (PK.out _ A5 c5 (by exact HT.out.of (HXR.out.trans (hX5.alloc _))) (by exact HS5.out.of (by repeat (first | with_reducible exact Within.refl _ | with_reducible assumption | with_reducible refine Within.alloc ?_ _ | with_reducible refine Within.drew ?_ | with_reducible refine Within.drewN ?_ _ | with_reducible refine Within.setCell ?_ (by first | (simp; done) | (simp; omega)) _ | with_reducible refine Within.trans ?_ (by assumption))))).mono ?_; rintro e6 w6 ⟨v6, rfl, hO6, h6⟩
            obtain ⟨A6, c6, rfl, hc6, hs6, hA6⟩ := hO6.form
            clear hO6
            rw [HM.out] at hc6 ⊢
            obtain ⟨ad6, hA6', _, _⟩ := hs6 (by rw [u8v_len, HM.out]; omega)
            subst hA6'
            have y0 : w6.cell? ⟨w5.heap.size, 0, none⟩ = some (.int .i64 (n : Int)) := (h6.cells _ _ (by simp)).trans (by simp)
            have y1 : w6.cell? ⟨w5.heap.size, 1, none⟩ = some (.int .u32 (q : Int)) := (h6.cells _ _ (by simp)).trans (by simp)
            have y2 : w6.cell? ⟨w5.heap.size, 2, none⟩ = some (.int .u32 (t : Int)) := (h6.cells _ _ (by simp)).trans (by simp)
            have y3 : w6.cell? ⟨w5.heap.size, 3, none⟩ = some (.slice A5 l.length c5) := (h6.cells _ _ (by simp)).trans (by simp)
            have HADN : Hid (∀ ad, some ad6 = some ad → ad.block ≠ bk) := Lib.hid (fun ad e => by have h1 := hA6 ad e; have h2 := HRP.out.lt; have h3 := hX5.size; simp at h1; omega)
            clear hA6
            have lt6 : w5.heap.size < w6.heap.size := World.block_lt_of_cell? _ _ y0
            have hX6 : Within wr w6 := Within.trans (hX5.alloc _) h6
            have HS5 := Lib.hid (HS5.out.of (Within.trans ((Within.refl w5).alloc _) h6))
            have HRP6 := HRP.out.of hX6
            have HX6 := Lib.hid (HXR.out.trans hX6)
            have htl : (pl.take M).length = M := by rw [List.length_take, HM.out]; omega
            have hdl : (pl.drop M).length = 1 := by rw [List.length_drop, HM.out]; omega
            have hst : SlAt w6 (some ad6) (u8v (pl.take M)) := by have := hs6.take M; unfold u8v at this ⊢; rwa [← List.map_take] at this
            have FD := Feed_any bk HBG.out [] (pl.take M) (fun x hx => by cases hx) (HBY.out.take M) (some ad6) c6 (by simp only [List.length_nil, htl]; omega) F Q (by simp only [List.length_nil, htl]; omega) (by simp only [List.length_nil, htl]; omega) _ w6 (HT.out.of HX6.out) HRP6 HBP.out hst
            rw [htl] at FD
            have HFD := Lib.hid FD; have HS6 := Lib.hid hs6; have HTL := Lib.hid htl; have HDL := Lib.hid hdl; have HRP6 := Lib.hid HRP6; have HC6 := Lib.hid hc6
            clear FD hs6 htl hdl hst
            have m1 : ¬ c6 = M := by omega
            have m2 : (M : Int) ≤ (c6 : Int) := by omega
            have m3 : (M : Int) ≤ (M : Int) + 1 := by omega
            have m4 : (M : Int) + 1 ≤ (c6 : Int) := by omega
            have m5 : M ≤ c6 := by omega
            have m6 : M + 1 ≤ c6 := by omega
            go_wp2_with fail
            refine HFD.out.mono ?_; rintro e7 w7 ⟨v7, rfl, hO7, hR7, hB7⟩
            rw [FB.out M (by rw [HM.out]; omega)] at hO7 hR7
            simp only [List.length_nil, Nat.add_zero] at hR7
            obtain ⟨A7, c7, rfl, _, _⟩ := hO7.form
            have hB67 := hB7
            have hX7 := HX6.out.aside hB7 HBW.out
            have hsd : SlAt w7 (some (ad6.add M)) (u8v (pl.drop M)) := by
              have h1 : SlAt w7 (some ad6) (u8v pl) := HS6.out.but hB67 (fun ad e => HADN.out ad e)
              have := h1.drop M; unfold u8v at this ⊢; rwa [← List.map_drop] at this
            have FD := Feed_any bk HBG.out (pl.take M) (pl.drop M) (HBY.out.take M) (HBY.out.drop M) (some (ad6.add M)) (c6 - M) (by rw [HTL.out, HDL.out]; omega) F Q (by rw [HTL.out, HDL.out]; omega) (by rw [HTL.out, HDL.out]; omega) _ w7 (HT.out.of hX7) hR7 HRP6.out.lt hsd
            clear hsd
            rw [HDL.out] at FD
            have HFD2 := Lib.hid FD; have HX7 := Lib.hid hX7; have HB67 := Lib.hid hB67; have HR7 := Lib.hid hR7; clear FD hX7 hB67 hB7 hR7 hO7
            simp only [List.length_nil]
            go_wp2_with fail
            refine HFD2.out.mono ?_; rintro e8 w8 ⟨v8, rfl, hO8, hR8, hB8⟩
            rw [FW.out M] at hO8 hR8
            simp only [List.length_singleton, Nat.add_zero] at hR8
            obtain ⟨A8, c8, rfl, hc8, hat, _⟩ := hO8.at
            obtain ⟨gd, Bv, dv, rfl, hbl2, x0, x1, x2, x3, hsv2⟩ := hat 0 rd rfl
            simp only [Nat.mul_zero, Nat.zero_add] at x0 x1 x2 x3
            have er : rd.sensor = n ∧ rd.seq = q ∧ rd.stamp = t ∧ rd.vals = l := by rw [HRD.out]; exact ⟨rfl, rfl, rfl, rfl⟩
            rw [er.1] at x0
            rw [er.2.1] at x1
            rw [er.2.2.1] at x2
            rw [er.2.2.2] at x3 hsv2
            have hB68 : But bk w6 w8 := HB67.out.trans hB8
            have hX8 := HX7.out.aside hB8 HBW.out
            have hsa : SlAt w8 A5 (f64v l) := HS5.out.but hB68 (fun ad e => HA5N.out ad e)
            have z0 := (hB68.cells _ 0 lt6 HN5.out).trans y0
            have z1 := (hB68.cells _ 1 lt6 HN5.out).trans y1
            have z2 := (hB68.cells _ 2 lt6 HN5.out).trans y2
            have z3 := (hB68.cells _ 3 lt6 HN5.out).trans y3
            have lt8 : w5.heap.size < w8.heap.size := World.block_lt_of_cell? _ _ z0
            have HSV2 := Lib.hid hsv2; have HSA := Lib.hid hsa; have HR8 := Lib.hid hR8; have HX8 := Lib.hid hX8
            clear hat hO8 hB8 hB68 er hsv2 hsa hR8 hX8 hc8
            simp only [List.length_singleton]
            go_wp2_with fail
            refine wp_region_schG (fun W => W.cell? ⟨gd, 0, none⟩ = some (.int .i64 (n : Int)) ∧ W.cell? ⟨gd, 1, none⟩ = some (.int .u32 (q : Int)) ∧ W.cell? ⟨gd, 2, none⟩ = some (.int .u32 (t : Int)) ∧ W.cell? ⟨gd, 3, none⟩ = some (.slice Bv l.length dv) ∧ W.cell? ⟨w5.heap.size, 0, none⟩ = some (.int .i64 (n : Int)) ∧ W.cell? ⟨w5.heap.size, 1, none⟩ = some (.int .u32 (q : Int)) ∧ W.cell? ⟨w5.heap.size, 2, none⟩ = some (.int .u32 (t : Int)) ∧ W.cell? ⟨w5.heap.size, 3, none⟩ = some (.slice A5 l.length c5) ∧ gd < W.heap.size ∧ w5.heap.size < W.heap.size ∧ SlAt W Bv (f64v l) ∧ SlAt W A5 (f64v l) ∧ W = w8) 15 (.firm 0 (.firm 1 (.firm 2 (.firm 3 (.firm 4 (.firm 5 (.firm 6 (.firm 7 (.one 8 (.firm 9 (.firm 10 (.firm 11 (.firm 12 (.one 13 (.firm 14 (.one 15 .nil)))))))))))))))) (by kernel_rfl) (by kernel_rfl) ⟨x0, x1, x2, x3, z0, z1, z2, z3, hbl2, lt8, HSV2.out, HSA.out, rfl⟩ ?_
            rintro w0 ⟨k0, k1, k2, k3, m0, m1, m2, m3, lb2, lb1, hsv0, hsa0, rfl⟩
            try simp only [Act.put, List.setIfInBounds_toArray, List.set_cons_zero, List.set_cons_succ]
            apply sch_firm rfl rfl (by repeat (first | with_reducible exact Within.refl _ | with_reducible assumption | with_reducible refine Within.alloc ?_ _ | with_reducible refine Within.drew ?_ | with_reducible refine Within.drewN ?_ _ | with_reducible refine Within.setCell ?_ (by first | (simp; done) | (simp; omega)) _ | with_reducible refine Within.trans ?_ (by assumption)))
            · intro wq hq
              have hcq := hq.cells
              clear hq
              go_simp
              first | rfl | (trace_state; fail)
            try simp only [Act.put, List.setIfInBounds_toArray, List.set_cons_zero, List.set_cons_succ]
            apply sch_firm rfl rfl (by repeat (first | with_reducible exact Within.refl _ | with_reducible assumption | with_reducible refine Within.alloc ?_ _ | with_reducible refine Within.drew ?_ | with_reducible refine Within.drewN ?_ _ | with_reducible refine Within.setCell ?_ (by first | (simp; done) | (simp; omega)) _ | with_reducible refine Within.trans ?_ (by assumption)))
            · intro wq hq
              have hcq := hq.cells
              clear hq
              go_simp
              first | rfl | (trace_state; fail)
            try simp only [Act.put, List.setIfInBounds_toArray, List.set_cons_zero, List.set_cons_succ]
            apply sch_firm rfl rfl (by repeat (first | with_reducible exact Within.refl _ | with_reducible assumption | with_reducible refine Within.alloc ?_ _ | with_reducible refine Within.drew ?_ | with_reducible refine Within.drewN ?_ _ | with_reducible refine Within.setCell ?_ (by first | (simp; done) | (simp; omega)) _ | with_reducible refine Within.trans ?_ (by assumption)))
            · intro wq hq
              have hcq := hq.cells
              clear hq
              go_simp
              first | rfl | (trace_state; fail)
            try simp only [Act.put, List.setIfInBounds_toArray, List.set_cons_zero, List.set_cons_succ]
            apply sch_firm rfl rfl (by repeat (first | with_reducible exact Within.refl _ | with_reducible assumption | with_reducible refine Within.alloc ?_ _ | with_reducible refine Within.drew ?_ | with_reducible refine Within.drewN ?_ _ | with_reducible refine Within.setCell ?_ (by first | (simp; done) | (simp; omega)) _ | with_reducible refine Within.trans ?_ (by assumption)))
            · intro wq hq
              have hcq := hq.cells
              clear hq
              go_simp
              first | rfl | (trace_state; fail)
            try simp only [Act.put, List.setIfInBounds_toArray, List.set_cons_zero, List.set_cons_succ]
            apply sch_want rfl (by first | rfl | decide | (simp [Region.wanted, yielded]; done)) (by repeat (first | with_reducible exact Within.refl _ | with_reducible assumption | with_reducible refine Within.alloc ?_ _ | with_reducible refine Within.drew ?_ | with_reducible refine Within.drewN ?_ _ | with_reducible refine Within.setCell ?_ (by first | (simp; done) | (simp; omega)) _ | with_reducible refine Within.trans ?_ (by assumption)))
            · intro wq hq
              have hcq := hq.cells
              clear hq
              go_simp
              first | rfl | (trace_state; fail)
            try simp only [Act.put, List.setIfInBounds_toArray, List.set_cons_zero, List.set_cons_succ]
            apply sch_want rfl (by first | rfl | decide | (simp [Region.wanted, yielded]; done)) (by repeat (first | with_reducible exact Within.refl _ | with_reducible assumption | with_reducible refine Within.alloc ?_ _ | with_reducible refine Within.drew ?_ | with_reducible refine Within.drewN ?_ _ | with_reducible refine Within.setCell ?_ (by first | (simp; done) | (simp; omega)) _ | with_reducible refine Within.trans ?_ (by assumption)))
            · intro wq hq
              have hcq := hq.cells
              clear hq
              go_simp
              first | rfl | (trace_state; fail)
            try simp only [Act.put, List.setIfInBounds_toArray, List.set_cons_zero, List.set_cons_succ]
            apply sch_want rfl (by first | rfl | decide | (simp [Region.wanted, yielded]; done)) (by repeat (first | with_reducible exact Within.refl _ | with_reducible assumption | with_reducible refine Within.alloc ?_ _ | with_reducible refine Within.drew ?_ | with_reducible refine Within.drewN ?_ _ | with_reducible refine Within.setCell ?_ (by first | (simp; done) | (simp; omega)) _ | with_reducible refine Within.trans ?_ (by assumption)))
            · intro wq hq
              have hcq := hq.cells
              clear hq
              go_simp
              first | rfl | (trace_state; fail)
            try simp only [Act.put, List.setIfInBounds_toArray, List.set_cons_zero, List.set_cons_succ]
            apply sch_want rfl (by first | rfl | decide | (simp [Region.wanted, yielded]; done)) (by repeat (first | with_reducible exact Within.refl _ | with_reducible assumption | with_reducible refine Within.alloc ?_ _ | with_reducible refine Within.drew ?_ | with_reducible refine Within.drewN ?_ _ | with_reducible refine Within.setCell ?_ (by first | (simp; done) | (simp; omega)) _ | with_reducible refine Within.trans ?_ (by assumption)))
            · intro wq hq
              have hcq := hq.cells
              clear hq
              go_simp
              first | rfl | (trace_state; fail)
            try simp only [Act.put, List.setIfInBounds_toArray, List.set_cons_zero, List.set_cons_succ]
            refine sch_one_want rfl (by first | rfl | decide | (simp [Region.wanted, yielded]; done)) (fun K hK => ?_)
            go_simp
            refine (SM.out _ Bv A5 dv c5 (by exact hsv0.of (by repeat (first | with_reducible exact Within.refl _ | with_reducible assumption | with_reducible refine Within.alloc ?_ _ | with_reducible refine Within.drew ?_ | with_reducible refine Within.drewN ?_ _ | with_reducible refine Within.setCell ?_ (by first | (simp; done) | (simp; omega)) _ | with_reducible refine Within.trans ?_ (by assumption)))) (by exact hsa0.of (by repeat (first | with_reducible exact Within.refl _ | with_reducible assumption | with_reducible refine Within.alloc ?_ _ | with_reducible refine Within.drew ?_ | with_reducible refine Within.drewN ?_ _ | with_reducible refine Within.setCell ?_ (by first | (simp; done) | (simp; omega)) _ | with_reducible refine Within.trans ?_ (by assumption))))).mono ?_; rintro e9 w9 ⟨rfl, h9⟩
            refine hK _ _ (fun _ => (by repeat (first | with_reducible exact Within.refl _ | with_reducible assumption | with_reducible refine Within.alloc ?_ _ | with_reducible refine Within.drew ?_ | with_reducible refine Within.drewN ?_ _ | with_reducible refine Within.setCell ?_ (by first | (simp; done) | (simp; omega)) _ | with_reducible refine Within.trans ?_ (by assumption)))) ?_
            clear hK K
            try simp only [Act.put, List.setIfInBounds_toArray, List.set_cons_zero, List.set_cons_succ]
            apply sch_want rfl (by first | rfl | decide | (simp [Region.wanted, yielded]; done)) (by repeat (first | with_reducible exact Within.refl _ | with_reducible assumption | with_reducible refine Within.alloc ?_ _ | with_reducible refine Within.drew ?_ | with_reducible refine Within.drewN ?_ _ | with_reducible refine Within.setCell ?_ (by first | (simp; done) | (simp; omega)) _ | with_reducible refine Within.trans ?_ (by assumption)))
            · intro wq hq
              have hcq := hq.cells
              clear hq
              go_simp
              first | rfl | (trace_state; fail)
            try simp only [Act.put, List.setIfInBounds_toArray, List.set_cons_zero, List.set_cons_succ]
            apply sch_firm rfl rfl (by repeat (first | with_reducible exact Within.refl _ | with_reducible assumption | with_reducible refine Within.alloc ?_ _ | with_reducible refine Within.drew ?_ | with_reducible refine Within.drewN ?_ _ | with_reducible refine Within.setCell ?_ (by first | (simp; done) | (simp; omega)) _ | with_reducible refine Within.trans ?_ (by assumption)))
            · intro wq hq
              have hcq := hq.cells
              clear hq
              go_simp
              first | rfl | (trace_state; fail)
            try simp only [Act.put, List.setIfInBounds_toArray, List.set_cons_zero, List.set_cons_succ]
            apply sch_firm rfl rfl (by repeat (first | with_reducible exact Within.refl _ | with_reducible assumption | with_reducible refine Within.alloc ?_ _ | with_reducible refine Within.drew ?_ | with_reducible refine Within.drewN ?_ _ | with_reducible refine Within.setCell ?_ (by first | (simp; done) | (simp; omega)) _ | with_reducible refine Within.trans ?_ (by assumption)))
            · intro wq hq
              have hcq := hq.cells
              clear hq
              go_simp
              first | rfl | (trace_state; fail)
            try simp only [Act.put, List.setIfInBounds_toArray, List.set_cons_zero, List.set_cons_succ]
            apply sch_want rfl (by first | rfl | decide | (simp [Region.wanted, yielded]; done)) (by repeat (first | with_reducible exact Within.refl _ | with_reducible assumption | with_reducible refine Within.alloc ?_ _ | with_reducible refine Within.drew ?_ | with_reducible refine Within.drewN ?_ _ | with_reducible refine Within.setCell ?_ (by first | (simp; done) | (simp; omega)) _ | with_reducible refine Within.trans ?_ (by assumption)))
            · intro wq hq
              have hcq := hq.cells
              clear hq
              go_simp
              first | rfl | (trace_state; fail)
            try simp only [Act.put, List.setIfInBounds_toArray, List.set_cons_zero, List.set_cons_succ]
            refine sch_one_want rfl (by first | rfl | decide | (simp [Region.wanted, yielded]; done)) (fun K hK => ?_)
            go_simp
            refine (Waiting_any bk _ [] (F + 1) Q _ (HR8.out.of (by exact (by repeat (first | with_reducible exact Within.refl _ | with_reducible assumption | with_reducible refine Within.alloc ?_ _ | with_reducible refine Within.drew ?_ | with_reducible refine Within.drewN ?_ _ | with_reducible refine Within.setCell ?_ (by first | (simp; done) | (simp; omega)) _ | with_reducible refine Within.trans ?_ (by assumption)))))).mono ?_; rintro e10 w10 ⟨rfl, rfl⟩
            simp only [List.length_nil]
            refine hK _ _ (fun _ => (by repeat (first | with_reducible exact Within.refl _ | with_reducible assumption | with_reducible refine Within.alloc ?_ _ | with_reducible refine Within.drew ?_ | with_reducible refine Within.drewN ?_ _ | with_reducible refine Within.setCell ?_ (by first | (simp; done) | (simp; omega)) _ | with_reducible refine Within.trans ?_ (by assumption)))) ?_
            clear hK K
            try simp only [Act.put, List.setIfInBounds_toArray, List.set_cons_zero, List.set_cons_succ]
            apply sch_want rfl (by first | rfl | decide | (simp [Region.wanted, yielded]; done)) (by repeat (first | with_reducible exact Within.refl _ | with_reducible assumption | with_reducible refine Within.alloc ?_ _ | with_reducible refine Within.drew ?_ | with_reducible refine Within.drewN ?_ _ | with_reducible refine Within.setCell ?_ (by first | (simp; done) | (simp; omega)) _ | with_reducible refine Within.trans ?_ (by assumption)))
            · intro wq hq
              have hcq := hq.cells
              clear hq
              go_simp
              first | rfl | (trace_state; fail)
            try simp only [Act.put, List.setIfInBounds_toArray, List.set_cons_zero, List.set_cons_succ]
            refine sch_one rfl rfl (fun K hK => ?_)
            go_simp
            refine hK _ _ (fun h => absurd h (by decide)) ?_
            clear hK K
            try simp only [Act.put, List.setIfInBounds_toArray, List.set_cons_zero, List.set_cons_succ]
            refine sch_nil ?_
            have hX9 : Within w0 w9 := (by repeat (first | with_reducible exact Within.refl _ | with_reducible assumption | with_reducible refine Within.alloc ?_ _ | with_reducible refine Within.drew ?_ | with_reducible refine Within.drewN ?_ _ | with_reducible refine Within.setCell ?_ (by first | (simp; done) | (simp; omega)) _ | with_reducible refine Within.trans ?_ (by assumption)))
            go_wp2
            go_roundw
            case rel => exact ⟨i + 1, hlt, by go_num, HX8.out.trans hX9, F + 1, _, by omega, HR8.out.of hX9, Nat.lt_of_lt_of_le HRP6.out.lt HB67.out.size⟩
            case measure => simp [intOf]; omega
          · have PK := Lib.hid (fun (W : World) A c (hT : FmS W) (h : SlAt W A (f64v l)) => Pack_any S q t A c l hq ht hw (by omega) W hT h)
            have OF := Lib.hid (fun W h => Of_any S q t Av cv l hw (by omega) W h)
            obtain ⟨pl, hpl⟩ : ∃ x, x = packL S q t l := ⟨_, rfl⟩
            rw [← hpl] at PK
            obtain ⟨ck, hck⟩ : ∃ x, x = checkV pf S l := ⟨_, rfl⟩
            rw [← hck] at PK hchk
            have hne : (ck != 0) = true := bne_iff_ne.2 hchk
            have HSV := Lib.hid hsv; clear hpl hck hsv hchk hw hvl
            go_wp2_with fail
            refine (OF.out _ (by exact HSV.out.of (by repeat (first | with_reducible exact Within.refl _ | with_reducible assumption | with_reducible refine Within.alloc ?_ _ | with_reducible refine Within.drew ?_ | with_reducible refine Within.drewN ?_ _ | with_reducible refine Within.setCell ?_ (by first | (simp; done) | (simp; omega)) _ | with_reducible refine Within.trans ?_ (by assumption))))).mono ?_; rintro e5 w5 ⟨v5, rfl, hO5, h5⟩
            obtain ⟨A5, c5, rfl, _, hs5, _⟩ := hO5.form
            have hX5 : Within wr w5 := Within.trans ((Within.refl wr).alloc _) h5
            have HS5 := Lib.hid hs5; clear hs5 hO5
            go_wp2_with fail
            refine (PK.out _ A5 c5 (by exact HT.out.of (HXR.out.trans (hX5.alloc _))) (by exact HS5.out.of (by repeat (first | with_reducible exact Within.refl _ | with_reducible assumption | with_reducible refine Within.alloc ?_ _ | with_reducible refine Within.drew ?_ | with_reducible refine Within.drewN ?_ _ | with_reducible refine Within.setCell ?_ (by first | (simp; done) | (simp; omega)) _ | with_reducible refine Within.trans ?_ (by assumption))))).mono ?_; rintro e6 w6 ⟨v6, rfl, hO6, h6⟩
            obtain ⟨A6, c6, rfl, _, _, _⟩ := hO6.form
            clear hO6
            have hX6 : Within wr w6 := Within.trans (hX5.alloc _) h6
            go_wp2
            go_roundw
            case rel => exact ⟨i + 1, hlt, by go_num, HXR.out.trans hX6, F, bP, by omega, HRP.out.of hX6, HBP.out⟩
            case measure => simp [intOf]; omega
        · obtain rfl : i = ls.length := by omega
          have hfd2 : ∀ w : World, (Instr.field 64 (.agg #[.int .i64 (F : Int), .int .i64 (Q : Int)]) 1).run Tryd.prog w = .ok (.int .i64 (Q : Int)) w := fun _ => by kernel_rfl
          have eqq : ((Q : Int) == (Q : Int)) = true := by simp
          have HRP := Lib.hid hRP; clear hRP
          go_wp2_with fail
          refine (Noted_any bk _ [] F Q _ HRP.out).mono ?_; rintro e5 w5 ⟨rfl, h5⟩
          go_wp2_with fail
          refine (awake_true _ (HT.out.of (hxr.trans h5))).mono ?_; rintro e6 w6 ⟨rfl, h6⟩
          go_wp2
          go_ret
          exact ⟨rfl, hxr.trans (h5.trans h6)⟩

theorem finds_walk (A : Option Addr) (c : Nat) (nl : List Nat) (hnb : Bytes nl) (hnl : nl.length ≤ 140737488355328) (B : Option Addr) (d : Nat) (ls : List LRd) (hl : ls.length ≤ 140737488355328) (w : World) (hT : FmS w) (hr : SlAt w A (u8v nl)) (hrb : LrdAt w B ls) : Calls Tryd.prog 9 #[.slice A nl.length c, .slice B ls.length d] w fun e w' => e = .returned (.bool true) ∧ Within w w' := by
  by_cases h1 : 20000 < nl.length
  · exact finds_noise A c nl B d ls h1 w hT
  · by_cases h2 : 300 < ls.length
    · exact finds_many A c nl B d ls ⟨by omega, h2⟩ w hT
    · exact finds_ok A c nl hnb hnl B d ls hl ⟨by omega, by omega⟩ w hT hr hrb

end Go.Proofs.YtmpcnhiklpahnaaDoor
