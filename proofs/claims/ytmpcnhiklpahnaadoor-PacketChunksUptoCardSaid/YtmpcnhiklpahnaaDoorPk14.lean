/- Packets: the reference's reader is fed: walk. -/
import Derived.Test.YtmpcnhiklpahnaaDoorPk13
namespace Go.Proofs.YtmpcnhiklpahnaaDoor
open Go.RowKit

set_option maxRecDepth 100000 in
set_option maxHeartbeats 1000000 in
theorem Rfeed_any (bk : Nat) (K l : List Nat) (hbK : Bytes K) (hbl : Bytes l) (A : Option Addr) (c : Nat) (hlen : K.length + l.length ≤ 1099511627776) (F D : Nat) (hF : F + (K.length + l.length) ≤ 4611686018427387904) (hD : D + (K.length + l.length) ≤ 4611686018427387904) (base : Nat) (w : World) (hR : RdrR w bk base K F D) (_hbb : bk < base) (hr : SlAt w A (u8v l)) : Calls Tryd.prog 33 #[.pointer (some ⟨bk, 0, none⟩), .slice A l.length c] w (RfeedPost w bk F D (K ++ l)) := by
  obtain ⟨Ak, ck, hC, hKc, hKs, hKb⟩ := hR
  have hbk := hC.lt
  obtain ⟨p0, p2, p3, pf0⟩ := hC
  obtain ⟨v1, w1, hrun1, hown1, hbl1⟩ := run_app_u8 w w.heap.size (.slice none 0 0) [] K (OwnB.nil_ _ _) Ak ck hKs (by simp; omega) (Nat.le_refl _)
  have hW1 : Within w w1 := hbl1
  obtain ⟨v2, W1, hrun2, hown2, hbl2⟩ := run_app_u8 w1 w.heap.size v1 ([] ++ K) l hown1 A c (hr.of hW1) (by simp; omega) hW1.size
  have hWW : Within w W1 := Below.trans hbl1 hbl2
  obtain ⟨A2, c2, rfl, hc2, hs2, hA2⟩ := hown2.form
  simp only [List.nil_append] at hs2 hc2 hrun2 hown2
  have hC1 : CellsR W1 bk (.slice Ak K.length ck) F D := CellsR.of ⟨p0, p2, p3, pf0⟩ hWW
  obtain ⟨kv, hkv⟩ : ∃ kv, kv = Value.slice Ak K.length ck := ⟨_, rfl⟩
  rw [← hkv] at hC1
  have HLEN := Lib.hid hlen; have HF := Lib.hid hF; have HD := Lib.hid hD
  obtain ⟨N2, hN2⟩ : ∃ N2, N2 = (K ++ l).length := ⟨_, rfl⟩
  have HR0 : FeedRel W1 bk (K ++ l) A2 N2 c2 (.slice none 0 0) W1 [] 0 (K ++ l) := ⟨hN2, hbK.append hbl, hc2, hs2, fun ad e => by have := hA2 ad e; omega, by simp, by simp, RdsO.nil_ _ _, But.refl _ _⟩
  rw [← hN2] at hrun2
  have RUN1 := Lib.hid hrun1; have RUN2 := Lib.hid hrun2; have HHR := Lib.hid HR0; have HC1 := Lib.hid hC1
  clear hrun1 hrun2 HR0 hC1 hlen hF hD hN2 hown1 hown2 hKs hKb hs2 hc2 hA2 hKc hbK hbl hr
  go_enter Tryd.func33, Tryd.ntmps33
  go_wp2_with (at_builtin; first | refine wpList_append_run rfl (.const (.slice none 0 0)) (.tmp 13) 26 rfl _ _ rfl rfl RUN1.out ?_ | refine wpList_append_run rfl (.tmp 14) (.tmp 15) 26 rfl _ _ rfl rfl RUN2.out ?_)
  go_loopw [5, 6] (fun v vv wr => ∃ A' n' c' rs d b, vv = .slice A' n' c' ∧ FeedRel W1 bk (K ++ l) A' n' c' v wr rs d b ∧ CellsR wr bk kv (F + rs.length) (D + d)) (fun _ vv _ => lenS vv)
  case atStart => exact ⟨A2, N2, c2, [], 0, K ++ l, rfl, HHR.out, HC1.out⟩
  case round =>
    obtain ⟨A', n', c', rs, d, b, rfl, hrel, hcp⟩ := hrel
    have hW1b := hrel
    obtain ⟨rfl, hbb', hbc, hat, hAb, hfe, hacc, hrds, hbut⟩ := hrel
    have hbW : bk < W1.heap.size := Nat.lt_of_lt_of_le hbk hWW.size
    have hlb : b.length ≤ 1099511627776 := by have := HLEN.out; rw [List.length_append] at hacc; omega
    have hsl : SlAt wr A' (u8v b) := hat.but hbut hAb
    have hbr : bk < wr.heap.size := hcp.lt
    obtain ⟨fr, hfr⟩ : ∃ x, x = F + rs.length := ⟨_, rfl⟩
    obtain ⟨dr, hdr⟩ : ∃ x, x = D + d := ⟨_, rfl⟩
    rw [← hfr, ← hdr] at hcp
    have hfl : fr < 4611686018427387904 + 1 := by have := HF.out; rw [List.length_append] at hacc; omega
    have hdl : dr < 4611686018427387904 + 1 := by have := HD.out; rw [List.length_append] at hacc; omega
    have wd : IntKind.i64.wrap ((dr : Int) + 1) = (dr : Int) + 1 := by rw [IntKind.wrap_i64]; omega
    have wf : IntKind.i64.wrap ((fr : Int) + 1) = (fr : Int) + 1 := by rw [IntKind.wrap_i64]; omega
    obtain ⟨p0, p2, p3, pff⟩ := hcp
    have HCP : Hid (CellsR wr bk kv fr dr) := Lib.hid ⟨p0, p2, p3, pff⟩
    have HRL := Lib.hid hW1b; have HBB := Lib.hid hbb'; have HBC := Lib.hid hbc; have HAT := Lib.hid hat; have HAB := Lib.hid hAb; have HSL := Lib.hid hsl; have HACC := Lib.hid hacc; have HBUT := Lib.hid hbut; have HRDS := Lib.hid hrds; have HLB := Lib.hid hlb; have HFR := Lib.hid hfr; have HDR := Lib.hid hdr; have HFL := Lib.hid hfl; have HDL := Lib.hid hdl
    clear hW1b hbb' hbc hat hAb hsl hacc hbut hrds hlb hfr hdr hfl hdl hfe
    have HCP2 : Hid (CellsR wr bk kv (F + rs.length) (D + d)) := Lib.hid (by rw [← HFR.out, ← HDR.out]; exact HCP.out)
    by_cases he : b = []
    · subst he
      have hfn : feedV pf [] = ([], 0, []) := feedV_nil
      obtain ⟨v3, w3, hrun, hown3, hbl3⟩ := run_app_u8 wr wr.heap.size (.slice none 0 0) [] [] (OwnB.nil_ _ _) A' c' HSL.out (by have := HLB.out; simp at this ⊢; try omega) (Nat.le_refl _)
      simp only [List.nil_append] at hown3
      obtain ⟨A3, c3, rfl, _, _, _⟩ := hown3.form
      have h3 : Within wr w3 := hbl3
      obtain ⟨r0, r2, r3, rff⟩ := HCP.out.of h3
      have hO3 := Lib.hid hown3; clear hown3
      have RUN := Lib.hid hrun; clear hrun
      simp only [List.length_nil] at RUN ⊢
      go_wp2_with (at_builtin; refine wpList_append_run rfl (.const (.slice none 0 0)) (.tmp 85) 26 rfl _ _ rfl rfl RUN.out ?_)
      go_ret
      exact RfeedPost.end_ hWW hbk HRL.out hfn HCP2.out hO3.out h3
    · obtain ⟨n, hn⟩ : ∃ n, b.length = n + 1 := ⟨b.length - 1, by have := List.length_pos_iff.2 he; omega⟩
      obtain ⟨ad, rfl, hadb, hadc⟩ := HSL.out (by rw [u8v_len]; omega)
      clear hadb hadc
      have hbc' := HBC.out; rw [hn] at hbc'
      have lc1 : (1 : Int) ≤ (c' : Int) := by omega
      have ln1 : (1 : Int) ≤ (n : Int) + 1 := by omega
      have c0 : ¬ c' = 0 := by omega
      have HN := Lib.hid hn
      have HDG : ∀ k, (4 ≤ k ∨ b.length ≤ k) → Calls Tryd.prog 48 #[.slice (some ad) (min k (n + 1)) c'] wr fun e w' => e = .returned (.bool (headB b)) ∧ wr = w' := fun k hk => by
        have h1 : SlAt wr (some ad) (u8v (b.take k)) := by have := HSL.out.take k; unfold u8v at this ⊢; rwa [← List.map_take] at this
        have := Rhead_any (some ad) c' (b.take k) (HBB.out.take k) (by have := HLB.out; rw [List.length_take]; omega) wr h1
        rwa [headB_4 b k hk, List.length_take, hn] at this
      have key3 : 4 ≤ b.length → wr.cell? ⟨ad.block, ad.off + 3, none⟩ = some (.int .u8 ((b.getD 3 0 : Nat) : Int)) := fun hk => by
        obtain ⟨ad', e', _, hc⟩ := HSL.out.at (show 3 < b.length by omega)
        obtain rfl := Option.some.inj e'
        rw [← add_plain' ad (by decide)]; exact hc
      have HK3 := Lib.hid key3; have HHG := Lib.hid HDG; clear key3 HDG
      have HSZ : Hid (∀ w, Calls Tryd.prog 49 #[.int .u8 ((b.getD 3 0 : Nat) : Int)] w fun e w' => e = .returned (.int .i64 (szOf (b.getD 3 0) : Int)) ∧ w = w') := Lib.hid fun w => Rsize_any _ (HBB.out.getD 3) w
      by_cases h4 : n + 1 < 4
      · have HHD : Hid (Calls Tryd.prog 48 #[.slice (some ad) (n + 1) c'] wr fun e w' => e = .returned (.bool (headB b)) ∧ wr = w') := Lib.hid (by have := HHG.out 4 (.inl (Nat.le_refl _)); rwa [Nat.min_eq_right (by omega)] at this)
        have hmin : min 4 ((n : Int) + 1) = (n : Int) + 1 := by omega
        have d4 : decide ((n : Int) + 1 < 4) = true := decide_eq_true (by omega)
        have hnc : n + 1 ≤ c' := hbc'
        have h44 : ¬ (4 : Int) ≤ (n : Int) + 1 := by omega
        cases hh : headB b
        · have hff := feedV_bad (F := pf) he hh
          rw [hh] at HHD
          rw [hn]
          rcases Decidable.em (c' = 1) with rfl | hc1
          · go_wp2_with fail
            refine HHD.out.mono ?_; rintro e1 w1 ⟨rfl, rfl⟩
            go_wp2
            go_roundw
            case rel =>
              refine ⟨some ad, n, 0, rs, d + 1, b.drop 1, (by show Value.slice _ 0 0 = .slice _ n 0; rw [show n = 0 by omega]), ?_, ?_⟩
              · exact FeedRel.drop1 HRL.out HN.out hff (.inl (by omega)) (fun ad' e => by have := HAB.out ad rfl; injection e with e; subst e; exact this) (by omega) (by repeat (first | with_reducible exact But.refl _ _ | with_reducible exact (But.refl bk wr) | with_reducible refine But.own ?_ _ | with_reducible refine But.alloc ?_ _)) hbW
              · have hx : CellsR _ bk kv fr (dr + 1) := CellsR.dr (HCP.out) (dr + 1)
                rw [show F + rs.length = fr from HFR.out.symm, show D + (d + 1) = dr + 1 by rw [HDR.out]; rfl]
                first | exact hx | exact hx.of ((Within.refl _).alloc _)
            case measure => simp [lenS]; try omega
          · go_wp2_with fail
            refine HHD.out.mono ?_; rintro e1 w1 ⟨rfl, rfl⟩
            go_wp2
            go_roundw
            case rel =>
              refine ⟨some ⟨ad.block, ad.off + 1, none⟩, n, (c' - 1), rs, d + 1, b.drop 1, rfl, ?_, ?_⟩
              · exact FeedRel.drop1 HRL.out HN.out hff (.inr ⟨ad, rfl, rfl⟩) (fun ad' e => by have := HAB.out ad rfl; injection e with e; subst e; exact this) (by omega) (by repeat (first | with_reducible exact But.refl _ _ | with_reducible exact (But.refl bk wr) | with_reducible refine But.own ?_ _ | with_reducible refine But.alloc ?_ _)) hbW
              · have hx : CellsR _ bk kv fr (dr + 1) := CellsR.dr (HCP.out) (dr + 1)
                rw [show F + rs.length = fr from HFR.out.symm, show D + (d + 1) = dr + 1 by rw [HDR.out]; rfl]
                first | exact hx | exact hx.of ((Within.refl _).alloc _)
            case measure => simp [lenS]; try omega
        · have hw : b.length < 4 ∨ b.length < szOf (b.getD 3 0) := .inl (by omega)
          have hfn := feedV_wait (F := pf) hh hw
          clear hw
          rw [hh] at HHD
          obtain ⟨v3, w3, hrun, hown3, hbl3⟩ := run_app_u8 wr wr.heap.size (.slice none 0 0) [] b (OwnB.nil_ _ _) (some ad) c' HSL.out (by have := HLB.out; simp at this ⊢; try omega) (Nat.le_refl _)
          simp only [List.nil_append] at hown3
          obtain ⟨A3, c3, rfl, _, _, _⟩ := hown3.form
          have h3 : Within wr w3 := hbl3
          obtain ⟨r0, r2, r3, rff⟩ := HCP.out.of h3
          have hO3 := Lib.hid hown3; clear hown3
          rw [hn] at hrun ⊢
          have RUN := Lib.hid hrun; clear hrun
          go_wp2_with fail
          refine HHD.out.mono ?_; rintro e1 w1 ⟨rfl, rfl⟩
          go_wp2_with (at_builtin; refine wpList_append_run rfl (.const (.slice none 0 0)) (.tmp 85) 26 rfl _ _ rfl rfl RUN.out ?_)
          go_ret
          rw [← HN.out]
          exact RfeedPost.end_ hWW hbk HRL.out hfn HCP2.out hO3.out h3
      · have HHD : Hid (Calls Tryd.prog 48 #[.slice (some ad) 4 c'] wr fun e w' => e = .returned (.bool (headB b)) ∧ wr = w') := Lib.hid (by have := HHG.out 4 (.inl (Nat.le_refl _)); rwa [Nat.min_eq_left (by omega)] at this)
        have hmin : min 4 ((n : Int) + 1) = 4 := by omega
        have d4 : decide ((n : Int) + 1 < 4) = false := decide_eq_false (by omega)
        have hnc : 4 ≤ c' := by omega
        have h44 : (4 : Int) ≤ (n : Int) + 1 := by omega
        have h44c : (4 : Int) ≤ (c' : Int) := by omega
        have l3 : (3 : Int) < (n : Int) + 1 := by omega
        have k3 := HK3.out (by omega)
        obtain ⟨Z, hZ⟩ : ∃ Z : Nat, Z = szOf (b.getD 3 0) := ⟨_, rfl⟩
        obtain ⟨B3, hB3⟩ : ∃ B3 : Nat, B3 = b.getD 3 0 := ⟨_, rfl⟩
        rw [← hZ, ← hB3] at HSZ
        rw [← hB3] at k3
        have HZZ := Lib.hid hZ; clear hZ hB3
        cases hh : headB b
        · have hff := feedV_bad (F := pf) he hh
          rw [hh] at HHD
          rw [hn]
          have hc1 : ¬ c' = 1 := by omega
          go_wp2_with fail
          refine HHD.out.mono ?_; rintro e1 w1 ⟨rfl, rfl⟩
          go_wp2
          go_roundw
          case rel =>
            refine ⟨some ⟨ad.block, ad.off + 1, none⟩, n, (c' - 1), rs, d + 1, b.drop 1, rfl, ?_, ?_⟩
            · exact FeedRel.drop1 HRL.out HN.out hff (.inr ⟨ad, rfl, rfl⟩) (fun ad' e => by have := HAB.out ad rfl; injection e with e; subst e; exact this) (by omega) (by repeat (first | with_reducible exact But.refl _ _ | with_reducible exact (But.refl bk wr) | with_reducible refine But.own ?_ _ | with_reducible refine But.alloc ?_ _)) hbW
            · have hx : CellsR _ bk kv fr (dr + 1) := CellsR.dr (HCP.out) (dr + 1)
              rw [show F + rs.length = fr from HFR.out.symm, show D + (d + 1) = dr + 1 by rw [HDR.out]; rfl]
              first | exact hx | exact hx.of ((Within.refl _).alloc _)
          case measure => simp [lenS]; try omega
        · rw [hh] at HHD
          by_cases hwt : n + 1 < Z
          · have hw : b.length < 4 ∨ b.length < szOf (b.getD 3 0) := .inr (by rw [← HZZ.out]; omega)
            have hfn := feedV_wait (F := pf) hh hw
            clear hw
            have d1 : decide ((n : Int) + 1 < (Z : Int)) = true := decide_eq_true (by omega)
            obtain ⟨v3, w3, hrun, hown3, hbl3⟩ := run_app_u8 wr wr.heap.size (.slice none 0 0) [] b (OwnB.nil_ _ _) (some ad) c' HSL.out (by have := HLB.out; simp at this ⊢; try omega) (Nat.le_refl _)
            simp only [List.nil_append] at hown3
            obtain ⟨A3, c3, rfl, _, _, _⟩ := hown3.form
            have h3 : Within wr w3 := hbl3
            obtain ⟨r0, r2, r3, rff⟩ := HCP.out.of h3
            have hO3 := Lib.hid hown3; clear hown3
            rw [hn] at hrun ⊢
            have RUN := Lib.hid hrun; clear hrun
            go_wp2_with fail
            refine HHD.out.mono ?_; rintro e1 w1 ⟨rfl, rfl⟩
            go_wp2_with fail
            refine (HSZ.out wr).mono ?_; rintro e2 w2 ⟨rfl, rfl⟩
            go_wp2_with (at_builtin; refine wpList_append_run rfl (.const (.slice none 0 0)) (.tmp 85) 26 rfl _ _ rfl rfl RUN.out ?_)
            go_ret
            rw [← HN.out]
            exact RfeedPost.end_ hWW hbk HRL.out hfn HCP2.out hO3.out h3
          · have hw : ¬ (b.length < 4 ∨ b.length < szOf (b.getD 3 0)) := by rw [← HZZ.out]; omega
            have hzl := szOf_ge (b.getD 3 0)
            have HZG : Hid (16 ≤ Z) := Lib.hid (by rw [HZZ.out]; exact hzl)
            have hle : Z ≤ n + 1 := by omega
            have d1 : decide ((n : Int) + 1 < (Z : Int)) = false := decide_eq_false (by omega)
            have dn : ¬ n + 1 < Z := hwt
            have hlc : Z ≤ c' := by omega
            have hli : (Z : Int) ≤ (n : Int) + 1 := by omega
            have hlci : (Z : Int) ≤ (c' : Int) := by omega
            have htl : (b.take Z).length = Z := by rw [List.length_take]; omega
            have UNP : Calls Tryd.prog 24 #[.slice (some ad) Z c'] wr (RetR wr (rdOf (b.take Z)) (unpackE pf (b.take Z))) := by
              have h1 : SlAt wr (some ad) (u8v (b.take Z)) := by have := HSL.out.take Z; unfold u8v at this ⊢; rwa [← List.map_take] at this
              have := Runpack_any (some ad) c' (b.take Z) (HBB.out.take Z) (by have := HLB.out; omega) (by omega) wr h1
              rwa [htl] at this
            obtain ⟨E, hE⟩ : ∃ E, E = unpackE pf (b.take Z) := ⟨_, rfl⟩
            rw [← hE] at UNP
            have HUN := Lib.hid UNP; have HE := Lib.hid hE; have HHW := Lib.hid hw; have HHZ := HZZ; clear UNP hE hw hzl htl hwt
            by_cases hE0 : E = 0
            · obtain ⟨R, hR⟩ : ∃ R, n + 1 = Z + R := ⟨n + 1 - Z, by omega⟩
              have hff := feedV_frame (F := pf) hh HHW.out (by rw [← HHZ.out, ← HE.out]; exact hE0)
              have hrd : rdOf (b.take Z) = readB pf (b.take (szOf (b.getD 3 0))) := by unfold rdOf; rw [if_pos (by rw [← HE.out]; exact hE0), HHZ.out]
              rw [← hrd, ← HHZ.out] at hff
              subst hE0
              obtain ⟨rdd, hrdd⟩ : ∃ x, x = rdOf (b.take Z) := ⟨_, rfl⟩
              rw [← hrdd] at hff HUN
              rw [hn, hR]
              have hNR : b.length = Z + R := hn.trans hR
              have e0' : (0 : Int) < (Z : Int) + (R : Int) := by omega
              rw [show (n : Int) + 1 = (Z : Int) + (R : Int) by omega] at hmin d4 h44 l3
              have l3' : (3 : Int) < (Z : Int) := by have := HZG.out; omega
              have h4Z : (4 : Int) ≤ (Z : Int) := by have := HZG.out; omega
              have d4' : decide ((Z : Int) < 4) = false := decide_eq_false (by omega)
              have hminZ : min 4 (Z : Int) = 4 := by omega
              have hZp : 0 < Z := by have := HZG.out; omega
              have HFF := Lib.hid hff; have HRD := Lib.hid hrdd; have HNR := Lib.hid hNR; have hZ0 : ¬ Z = 0 := by have := HZG.out; omega
              have HZ0 := Lib.hid hZ0; have lZR : (Z : Int) ≤ (Z : Int) + (R : Int) := by omega
              clear hff hrd hrdd hn hR hNR hZ0 ln1 HN d1 dn hli hle hbc' h4
              rcases Decidable.em (Z = c') with hcZ | hcZ'
              · obtain rfl : R = 0 := by have := HBC.out; have := HNR.out; omega
                subst hcZ
                simp only [Nat.add_zero, Int.natCast_zero, Int.add_zero] at e0' lZR hmin d4 h44 l3 ⊢
                go_wp2_with fail
                refine HHD.out.mono ?_; rintro e1 w1 ⟨rfl, rfl⟩
                go_wp2_with fail
                refine (HSZ.out wr).mono ?_; rintro e2 w2 ⟨rfl, rfl⟩
                go_wp2_with fail
                refine (HSZ.out wr).mono ?_; rintro e2 w2 ⟨rfl, rfl⟩
                go_wp2_with fail
                refine HUN.out.mono ?_; rintro e5 w5 ⟨vv, rfl, hOF, hW5⟩
                obtain ⟨Av, cv, rfl, _, _, _⟩ := hOF.form
                have hW6 : Within wr (w5.alloc (.cells #[.int .i64 (rdd.sensor : Int), .int .u32 (rdd.seq : Int), .int .u32 (rdd.stamp : Int), .slice Av rdd.vals.length cv] 29)) := hW5.alloc _
                have hsz6 : W1.heap.size ≤ (w5.alloc (.cells #[.int .i64 (rdd.sensor : Int), .int .u32 (rdd.seq : Int), .int .u32 (rdd.stamp : Int), .slice Av rdd.vals.length cv] 29)).heap.size := Nat.le_trans HBUT.out.size hW6.size
                have hne : (Value.slice Av rdd.vals.length cv).ownBlock = none ∨ (Value.slice Av rdd.vals.length cv).ownBlock ≠ u5.ownBlock := by
                  cases hx : (Value.slice Av rdd.vals.length cv).ownBlock with
                  | none => exact .inl rfl
                  | some j => exact .inr (fun e => by have h1 := (hOF.lt j hx).1; have h2 := (HRDS.out.own_lt j e.symm).2; omega)
                obtain ⟨v7, w7, hrun7, hrd7, hg7, hv7⟩ := run_app_rd (w5.alloc (.cells #[.int .i64 (rdd.sensor : Int), .int .u32 (rdd.seq : Int), .int .u32 (rdd.stamp : Int), .slice Av rdd.vals.length cv] 29)) W1.heap.size u5 rs rdd (.slice Av rdd.vals.length cv) (HRDS.out.of hW6) ((hOF.of ((Within.refl w5).alloc _)).less HBUT.out.size) hne (by have h1 := HACC.out; have h2 := HLEN.out; rw [List.length_append] at h1; omega) hsz6
                have hB7 : But bk W1 w7 := (HBUT.out.within hW6).grown hg7 hv7
                have hC7 : CellsR w7 bk kv fr dr := (HCP.out.of hW6).grown hg7 (fun e => by have := hv7 bk e.symm; omega)
                obtain ⟨r0, r2, r3, rff⟩ := hC7
                have HC7 : Hid (CellsR w7 bk kv fr dr) := Lib.hid ⟨r0, r2, r3, rff⟩
                have hbr7 : bk < w7.heap.size := HC7.out.lt
                rw [show (w5.alloc (.cells #[.int .i64 (rdd.sensor : Int), .int .u32 (rdd.seq : Int), .int .u32 (rdd.stamp : Int), .slice Av rdd.vals.length cv] 29)).heap.size = w5.heap.size + 1 by simp] at hrun7
                have RUN7 := Lib.hid hrun7; have HRD7 := Lib.hid hrd7; have HB7 := Lib.hid hB7; clear hrun7 hrd7 hB7 hg7 hv7 hne hOF hsz6
                go_wp2_with (at_builtin; refine wpList_append_run rfl (.tmp 70) (.tmp 72) 58 rfl _ _ rfl rfl RUN7.out ?_)
                go_roundw
                case rel =>
                  refine ⟨some ad, 0, 0, rs ++ [rdd], d, b.drop Z, rfl, ?_, ?_⟩
                  · exact FeedRel.frame HRL.out HNR.out (by have := HZ0.out; omega) HFF.out (.inl rfl) (fun ad' e => by have := HAB.out ad rfl; injection e with e; subst e; first | exact this | (rw [add_block]; exact this)) (by have := HBC.out; have := HNR.out; omega) (HB7.out.own _) (HRD7.out.but ((But.refl bk w7).own _) hbW)
                  · have hx : CellsR _ bk kv (fr + 1) dr := CellsR.fr HC7.out (fr + 1)
                    rw [show D + d = dr from HDR.out.symm, show F + (rs ++ [rdd]).length = fr + 1 by rw [HFR.out, List.length_append]; rfl]
                    exact hx
                case measure => have := HZ0.out; simp [lenS]; try omega
              · have hcZ : ¬ c' = Z := fun h => hcZ' h.symm
                go_wp2_with fail
                refine HHD.out.mono ?_; rintro e1 w1 ⟨rfl, rfl⟩
                go_wp2_with fail
                refine (HSZ.out wr).mono ?_; rintro e2 w2 ⟨rfl, rfl⟩
                go_wp2_with fail
                refine (HSZ.out wr).mono ?_; rintro e2 w2 ⟨rfl, rfl⟩
                go_wp2_with fail
                refine HUN.out.mono ?_; rintro e5 w5 ⟨vv, rfl, hOF, hW5⟩
                obtain ⟨Av, cv, rfl, _, _, _⟩ := hOF.form
                have hW6 : Within wr (w5.alloc (.cells #[.int .i64 (rdd.sensor : Int), .int .u32 (rdd.seq : Int), .int .u32 (rdd.stamp : Int), .slice Av rdd.vals.length cv] 29)) := hW5.alloc _
                have hsz6 : W1.heap.size ≤ (w5.alloc (.cells #[.int .i64 (rdd.sensor : Int), .int .u32 (rdd.seq : Int), .int .u32 (rdd.stamp : Int), .slice Av rdd.vals.length cv] 29)).heap.size := Nat.le_trans HBUT.out.size hW6.size
                have hne : (Value.slice Av rdd.vals.length cv).ownBlock = none ∨ (Value.slice Av rdd.vals.length cv).ownBlock ≠ u5.ownBlock := by
                  cases hx : (Value.slice Av rdd.vals.length cv).ownBlock with
                  | none => exact .inl rfl
                  | some j => exact .inr (fun e => by have h1 := (hOF.lt j hx).1; have h2 := (HRDS.out.own_lt j e.symm).2; omega)
                obtain ⟨v7, w7, hrun7, hrd7, hg7, hv7⟩ := run_app_rd (w5.alloc (.cells #[.int .i64 (rdd.sensor : Int), .int .u32 (rdd.seq : Int), .int .u32 (rdd.stamp : Int), .slice Av rdd.vals.length cv] 29)) W1.heap.size u5 rs rdd (.slice Av rdd.vals.length cv) (HRDS.out.of hW6) ((hOF.of ((Within.refl w5).alloc _)).less HBUT.out.size) hne (by have h1 := HACC.out; have h2 := HLEN.out; rw [List.length_append] at h1; omega) hsz6
                have hB7 : But bk W1 w7 := (HBUT.out.within hW6).grown hg7 hv7
                have hC7 : CellsR w7 bk kv fr dr := (HCP.out.of hW6).grown hg7 (fun e => by have := hv7 bk e.symm; omega)
                obtain ⟨r0, r2, r3, rff⟩ := hC7
                have HC7 : Hid (CellsR w7 bk kv fr dr) := Lib.hid ⟨r0, r2, r3, rff⟩
                have hbr7 : bk < w7.heap.size := HC7.out.lt
                rw [show (w5.alloc (.cells #[.int .i64 (rdd.sensor : Int), .int .u32 (rdd.seq : Int), .int .u32 (rdd.stamp : Int), .slice Av rdd.vals.length cv] 29)).heap.size = w5.heap.size + 1 by simp] at hrun7
                have RUN7 := Lib.hid hrun7; have HRD7 := Lib.hid hrd7; have HB7 := Lib.hid hB7; clear hrun7 hrd7 hB7 hg7 hv7 hne hOF hsz6
                go_wp2_with (at_builtin; refine wpList_append_run rfl (.tmp 70) (.tmp 72) 58 rfl _ _ rfl rfl RUN7.out ?_)
                go_roundw
                case rel =>
                  refine ⟨some (ad.add Z), R, (c' - Z), rs ++ [rdd], d, b.drop Z, rfl, ?_, ?_⟩
                  · exact FeedRel.frame HRL.out HNR.out (by have := HZ0.out; omega) HFF.out (.inr ⟨ad, rfl, rfl⟩) (fun ad' e => by have := HAB.out ad rfl; injection e with e; subst e; first | exact this | (rw [add_block]; exact this)) (by have := HBC.out; have := HNR.out; omega) (HB7.out.own _) (HRD7.out.but ((But.refl bk w7).own _) hbW)
                  · have hx : CellsR _ bk kv (fr + 1) dr := CellsR.fr HC7.out (fr + 1)
                    rw [show D + d = dr from HDR.out.symm, show F + (rs ++ [rdd]).length = fr + 1 by rw [HFR.out, List.length_append]; rfl]
                    exact hx
                case measure => have := HZ0.out; simp [lenS]; try omega
            · have hne : (E != 0) = true := bne_iff_ne.2 hE0
              have hff := feedV_spoilt (F := pf) hh HHW.out (by rw [← HHZ.out, ← HE.out]; exact hE0)
              rw [hn]
              have hc1 : ¬ c' = 1 := by omega
              go_wp2_with fail
              refine HHD.out.mono ?_; rintro e1 w1 ⟨rfl, rfl⟩
              go_wp2_with fail
              refine (HSZ.out wr).mono ?_; rintro e2 w2 ⟨rfl, rfl⟩
              go_wp2_with fail
              refine (HSZ.out wr).mono ?_; rintro e2 w2 ⟨rfl, rfl⟩
              go_wp2_with fail
              refine HUN.out.mono ?_; rintro e5 w5 ⟨vv, rfl, hOF, hW5⟩
              obtain ⟨r0, r2, r3, rff⟩ := HCP.out.of hW5
              have hbr5 : bk < w5.heap.size := Nat.lt_of_lt_of_le hbr hW5.size
              obtain ⟨Av, cv, rfl, _, _, _⟩ := hOF.form
              clear hOF
              go_wp2
              go_roundw
              case rel =>
                refine ⟨some ⟨ad.block, ad.off + 1, none⟩, n, (c' - 1), rs, d + 1, b.drop 1, rfl, ?_, ?_⟩
                · exact FeedRel.drop1 HRL.out HN.out hff (.inr ⟨ad, rfl, rfl⟩) (fun ad' e => by have := HAB.out ad rfl; injection e with e; subst e; exact this) (by omega) (by repeat (first | with_reducible exact But.refl _ _ | with_reducible exact But.in_ hW5 | with_reducible refine But.own ?_ _ | with_reducible refine But.alloc ?_ _)) hbW
                · have hx : CellsR _ bk kv fr (dr + 1) := CellsR.dr (HCP.out.of hW5) (dr + 1)
                  rw [show F + rs.length = fr from HFR.out.symm, show D + (d + 1) = dr + 1 by rw [HDR.out]; rfl]
                  first | exact hx | exact hx.of ((Within.refl _).alloc _)
              case measure => simp [lenS]; try omega

end Go.Proofs.YtmpcnhiklpahnaaDoor
