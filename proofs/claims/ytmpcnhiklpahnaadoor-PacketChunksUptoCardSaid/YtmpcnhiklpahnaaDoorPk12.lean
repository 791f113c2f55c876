/- Packets: the program's reader is fed: walk. -/
import Derived.Test.YtmpcnhiklpahnaaDoorPk11
import Derived.IntWalk
namespace Go.Proofs.YtmpcnhiklpahnaaDoor
open Go.RowKit

set_option maxRecDepth 100000 in
set_option maxHeartbeats 1000000 in
theorem Feed_any (bk : Nat) (hg : bk ≠ 1) (K l : List Nat) (hbK : Bytes K) (hbl : Bytes l) (A : Option Addr) (c : Nat) (hlen : K.length + l.length ≤ 1099511627776) (F D : Nat) (hF : F + (K.length + l.length) ≤ 4611686018427387904) (hD : D + (K.length + l.length) ≤ 4611686018427387904) (base : Nat) (w : World) (hT : FmS w) (hR : RdrP w bk base K F D) (_hbb : bk < base) (hr : SlAt w A (u8v l)) : Calls Tryd.prog 27 #[.pointer (some ⟨bk, 0, none⟩), .slice A l.length c] w (FeedPost w bk F D (K ++ l)) := by
  obtain ⟨Ak, ck, hC, hKc, hKs, hKb⟩ := hR
  have hbk := hC.lt
  obtain ⟨p0, p1, p2, p3, pf0⟩ := hC
  obtain ⟨v1, w1, hrun1, hown1, hbl1⟩ := run_app_u8 w w.heap.size (.slice none 0 0) [] K (OwnB.nil_ _ _) Ak ck hKs (by simp; omega) (Nat.le_refl _)
  have hW1 : Within w w1 := hbl1
  obtain ⟨v2, W1, hrun2, hown2, hbl2⟩ := run_app_u8 w1 w.heap.size v1 ([] ++ K) l hown1 A c (hr.of hW1) (by simp; omega) hW1.size
  have hWW : Within w W1 := Below.trans hbl1 hbl2
  obtain ⟨A2, c2, rfl, hc2, hs2, hA2⟩ := hown2.form
  simp only [List.nil_append] at hs2 hc2 hrun2 hown2
  have hC1 : CellsP W1 bk (.slice Ak K.length ck) F D := CellsP.of ⟨p0, p1, p2, p3, pf0⟩ hWW
  obtain ⟨kv, hkv⟩ : ∃ kv, kv = Value.slice Ak K.length ck := ⟨_, rfl⟩
  rw [← hkv] at hC1
  have HLEN := Lib.hid hlen; have HF := Lib.hid hF; have HD := Lib.hid hD
  obtain ⟨N2, hN2⟩ : ∃ N2, N2 = (K ++ l).length := ⟨_, rfl⟩
  have hNN : (@List.nil Nat).length = 0 := rfl
  have HR0 : FeedRel W1 bk (K ++ l) A2 N2 c2 (.slice none 0 0) W1 [] 0 (K ++ l) := ⟨hN2, hbK.append hbl, hc2, hs2, fun ad e => by have := hA2 ad e; omega, by simp, by simp, RdsO.nil_ _ _, But.refl _ _⟩
  rw [← hN2] at hrun2
  have RUN1 := Lib.hid hrun1; have RUN2 := Lib.hid hrun2; have HT := Lib.hid (hT.of hWW); have HHR := Lib.hid HR0; have HC1 := Lib.hid hC1
  clear hrun1 hrun2 HR0 hC1 hlen hF hD hN2 hown1 hown2 hKs hKb hs2 hc2 hA2 hKc hbK hbl hr hT
  go_enter Tryd.func27, Tryd.ntmps27
  go_wp2
  refine wp_scope_jumps' 0 (fun a' wr => ∃ (A' : Option Addr) (n' c' : Nat) (v : Value) (rs : List Rd) (d : Nat) (b : List Nat), a'.defers = [] ∧ a'.tmps.size = 97 ∧ a'.tmps.getD 0 undef = .pointer (some ⟨bk, 0, none⟩) ∧ a'.tmps.getD 5 undef = .slice A' n' c' ∧ a'.tmps.getD 6 undef = v ∧ FeedRel W1 bk (K ++ l) A' n' c' v wr rs d b ∧ CellsP wr bk kv (F + rs.length) (D + d)) (fun a' _ => lenS (a'.tmps.getD 5 undef)) rfl ?_ ?_
  · intro hpass
    go_wp2_with (at_builtin; first | refine wpList_append_run rfl (.const (.slice none 0 0)) (.tmp 23) 26 rfl _ _ rfl rfl RUN1.out ?_ | refine wpList_append_run rfl (.tmp 24) (.tmp 25) 26 rfl _ _ rfl rfl RUN2.out ?_)
    go_step3
    rename_i hK
    refine hK _ _ (hpass _ _ ?_)
    exact ⟨A2, N2, c2, .slice none 0 0, [], 0, K ++ l, rfl, rfl, rfl, rfl, rfl, HHR.out, HC1.out⟩
  · rintro a' wr ⟨A', n', c', v, rs, d, b, hfd, hfs, f0, f5, f6, hrel, hcp⟩
    obtain ⟨u, hu, hfe'⟩ := frame97 a' hfd hfs
    rw [hu] at f0 f5 f6
    clear hu hfd hfs
    subst hfe'
    rw [f0, f5, f6]
    clear f0 f5 f6
    have hW1b := hrel
    obtain ⟨rfl, hbb', hbc, hat, hAb, hfe, hacc, hrds, hbut⟩ := hrel
    have hbW : bk < W1.heap.size := Nat.lt_of_lt_of_le hbk hWW.size
    have hlb : b.length ≤ 1099511627776 := by have := HLEN.out; rw [List.length_append] at hacc; omega
    have hsl : SlAt wr A' (u8v b) := hat.but hbut hAb
    have HSZ := Lib.hid (size_any A' c' b hbb' (by omega) wr hsl)
    have hbr : bk < wr.heap.size := hcp.lt
    obtain ⟨fr, hfr⟩ : ∃ x, x = F + rs.length := ⟨_, rfl⟩
    obtain ⟨dr, hdr⟩ : ∃ x, x = D + d := ⟨_, rfl⟩
    rw [← hfr, ← hdr] at hcp
    have hfl : fr < 4611686018427387904 + 1 := by have := HF.out; rw [List.length_append] at hacc; omega
    have hdl : dr < 4611686018427387904 + 1 := by have := HD.out; rw [List.length_append] at hacc; omega
    have wd : IntKind.i64.wrap ((dr : Int) + 1) = (dr : Int) + 1 := by rw [IntKind.wrap_i64]; omega
    have wf : IntKind.i64.wrap ((fr : Int) + 1) = (fr : Int) + 1 := by rw [IntKind.wrap_i64]; omega
    obtain ⟨p0, p1, p2, p3, pff⟩ := hcp
    have HCP : Hid (CellsP wr bk kv fr dr) := Lib.hid ⟨p0, p1, p2, p3, pff⟩
    have HRL := Lib.hid hW1b; have HBB := Lib.hid hbb'; have HBC := Lib.hid hbc; have HAT := Lib.hid hat; have HAB := Lib.hid hAb; have HSL := Lib.hid hsl; have HACC := Lib.hid hacc; have HBUT := Lib.hid hbut; have HRDS := Lib.hid hrds; have HLB := Lib.hid hlb; have HFR := Lib.hid hfr; have HDR := Lib.hid hdr; have HFL := Lib.hid hfl; have HDL := Lib.hid hdl
    clear hW1b hbb' hbc hat hAb hsl hacc hbut hrds hlb hfr hdr hfl hdl hfe
    have HCP2 : Hid (CellsP wr bk kv (F + rs.length) (D + d)) := Lib.hid (by rw [← HFR.out, ← HDR.out]; exact HCP.out)
    by_cases he : b = []
    · subst he
      have e1 : szV [] = 4 := by decide
      have e2 : headB [] = true := by decide
      rw [e1, e2] at HSZ
      have hfn : feedV pf [] = ([], 0, []) := feedV_nil
      obtain ⟨v3, w3, hrun, hown3, hbl3⟩ := run_app_u8 wr wr.heap.size (.slice none 0 0) [] [] (OwnB.nil_ _ _) A' c' HSL.out (by have := HLB.out; simp at this ⊢; try omega) (Nat.le_refl _)
      simp only [List.nil_append] at hown3
      obtain ⟨A3, c3, rfl, _, _, _⟩ := hown3.form
      have h3 : Within wr w3 := hbl3
      obtain ⟨r0, r1, r2, r3, rff⟩ := HCP.out.of h3
      have hO3 := Lib.hid hown3; clear hown3
      have RUN := Lib.hid hrun; clear hrun
      simp only [List.length_nil] at HSZ RUN ⊢
      go_wp2_with fail
      refine HSZ.out.mono ?_; rintro e1 w1 ⟨rfl, rfl⟩
      go_wp2_with (at_builtin; refine wpList_append_run rfl (.const (.slice none 0 0)) (.tmp 92) 26 rfl _ _ rfl rfl RUN.out ?_)
      simp only [Exit.jump]
      go_ret
      exact FeedPost.end_ hWW hbk HRL.out hfn HCP2.out hO3.out h3
    · obtain ⟨n, hn⟩ : ∃ n, b.length = n + 1 := ⟨b.length - 1, by have := List.length_pos_iff.2 he; omega⟩
      obtain ⟨ad, rfl, hadb, hadc⟩ := HSL.out (by rw [u8v_len]; omega)
      clear hadb hadc
      have e0 : ((n : Int) + 1 == 0) = false := by rw [beq_eq_false_iff_ne]; omega
      have hbc' := HBC.out; rw [hn] at hbc'
      have lc1 : (1 : Int) ≤ (c' : Int) := by omega
      have ln1 : (1 : Int) ≤ (n : Int) + 1 := by omega
      have c0 : ¬ c' = 0 := by omega
      have HN := Lib.hid hn
      cases hh : headB b
      · rw [hh, hn] at HSZ
        have hff := feedV_bad (F := pf) he hh
        rw [hn]
        rcases Decidable.em (c' = 1) with rfl | hc1
        all_goals
          go_wp2_with fail
          refine HSZ.out.mono ?_; rintro e1 w1 ⟨rfl, rfl⟩
          go_wp2
          try go_step3
        · refine ⟨rfl, ⟨some ad, n, 0, v, rs, d + 1, b.drop 1, rfl, rfl, rfl, (by show Value.slice _ 0 0 = .slice _ n 0; rw [show n = 0 by omega]), rfl, ?_, ?_⟩, ?_⟩
          · exact FeedRel.drop1 HRL.out HN.out hff (.inl (by omega)) (fun ad' e => by have := HAB.out ad rfl; injection e with e; subst e; exact this) (by omega) (by repeat (first | with_reducible exact But.refl _ _ | with_reducible exact (But.refl bk wr) | with_reducible refine But.own ?_ _ | with_reducible refine But.alloc ?_ _)) hbW
          · have hx : CellsP _ bk kv fr (dr + 1) := CellsP.dr (HCP.out) (dr + 1)
            rw [show F + rs.length = fr from HFR.out.symm, show D + (d + 1) = dr + 1 by rw [HDR.out]; rfl]
            first | exact hx | exact hx.of ((Within.refl _).alloc _)
          · simp [lenS]; try omega
        · refine ⟨rfl, ⟨some ⟨ad.block, ad.off + 1, none⟩, n, (c' - 1), v, rs, d + 1, b.drop 1, rfl, rfl, rfl, rfl, rfl, ?_, ?_⟩, ?_⟩
          · exact FeedRel.drop1 HRL.out HN.out hff (.inr ⟨ad, rfl, rfl⟩) (fun ad' e => by have := HAB.out ad rfl; injection e with e; subst e; exact this) (by omega) (by repeat (first | with_reducible exact But.refl _ _ | with_reducible exact (But.refl bk wr) | with_reducible refine But.own ?_ _ | with_reducible refine But.alloc ?_ _)) hbW
          · have hx : CellsP _ bk kv fr (dr + 1) := CellsP.dr (HCP.out) (dr + 1)
            rw [show F + rs.length = fr from HFR.out.symm, show D + (d + 1) = dr + 1 by rw [HDR.out]; rfl]
            first | exact hx | exact hx.of ((Within.refl _).alloc _)
          · simp [lenS]; try omega
      · obtain ⟨Z, hZ⟩ : ∃ Z : Nat, szV b = (Z : Int) ∧ Z = if b.length < 4 then 4 else szOf (b.getD 3 0) := ⟨_, by unfold szV; rw [hh]; simp only [Bool.true_eq_false, if_false]; split <;> rfl, rfl⟩
        rw [hZ.1, hh] at HSZ
        by_cases hw : b.length < 4 ∨ b.length < szOf (b.getD 3 0)
        · have hfn := feedV_wait (F := pf) hh hw
          have hlt : n + 1 < Z := by have := hZ.2; rw [← hn, this]; split <;> omega
          have d1 : decide ((n : Int) + 1 < (Z : Int)) = true := decide_eq_true (by omega)
          have HHW := Lib.hid hw; have HHZ := Lib.hid hZ; clear hw hZ
          obtain ⟨v3, w3, hrun, hown3, hbl3⟩ := run_app_u8 wr wr.heap.size (.slice none 0 0) [] b (OwnB.nil_ _ _) (some ad) c' HSL.out (by have := HLB.out; simp at this ⊢; try omega) (Nat.le_refl _)
          simp only [List.nil_append] at hown3
          obtain ⟨A3, c3, rfl, _, _, _⟩ := hown3.form
          have h3 : Within wr w3 := hbl3
          obtain ⟨r0, r1, r2, r3, rff⟩ := HCP.out.of h3
          have hO3 := Lib.hid hown3; clear hown3
          rw [hn] at HSZ hrun ⊢
          have RUN := Lib.hid hrun; clear hrun
          go_wp2_with fail
          refine HSZ.out.mono ?_; rintro e1 w1 ⟨rfl, rfl⟩
          go_wp2_with (at_builtin; refine wpList_append_run rfl (.const (.slice none 0 0)) (.tmp 92) 26 rfl _ _ rfl rfl RUN.out ?_)
          simp only [Exit.jump]
          go_ret
          rw [← HN.out]
          exact FeedPost.end_ hWW hbk HRL.out hfn HCP2.out hO3.out h3
        · have hz := hZ.2; rw [if_neg (by omega)] at hz
          have hzl := szOf_ge (b.getD 3 0)
          have HZG : Hid (16 ≤ Z) := Lib.hid (by rw [hz]; exact hzl)
          have hle : Z ≤ n + 1 := by rw [← hn, hz]; omega
          have d1 : decide ((n : Int) + 1 < (Z : Int)) = false := decide_eq_false (by omega)
          have dn : ¬ n + 1 < Z := by omega
          have hlc : Z ≤ c' := by omega
          have hli : (Z : Int) ≤ (n : Int) + 1 := by omega
          have hlci : (Z : Int) ≤ (c' : Int) := by omega
          have htl : (b.take Z).length = Z := by rw [List.length_take]; omega
          have UNP : Calls Tryd.prog 23 #[.slice (some ad) Z c'] wr (RetR wr (rdOf (b.take Z)) (unpackE pf (b.take Z))) := by
            have h1 : SlAt wr (some ad) (u8v (b.take Z)) := by have := HSL.out.take Z; unfold u8v at this ⊢; rwa [← List.map_take] at this
            have := Unpack_any (some ad) c' (b.take Z) (HBB.out.take Z) (by have := HLB.out; omega) (by omega) wr (HT.out.but HBUT.out hg) h1
            rwa [htl] at this
          obtain ⟨E, hE⟩ : ∃ E, E = unpackE pf (b.take Z) := ⟨_, rfl⟩
          rw [← hE] at UNP
          have HUN := Lib.hid UNP; have HE := Lib.hid hE; have HHW := Lib.hid hw; have HHZ := Lib.hid hz; clear UNP hE hw hZ hz hzl htl
          by_cases hE0 : E = 0
          · obtain ⟨R, hR⟩ : ∃ R, n + 1 = Z + R := ⟨n + 1 - Z, by omega⟩
            have hff := feedV_frame (F := pf) hh HHW.out (by rw [← HHZ.out, ← HE.out]; exact hE0)
            have hrd : rdOf (b.take Z) = readB pf (b.take (szOf (b.getD 3 0))) := by unfold rdOf; rw [if_pos (by rw [← HE.out]; exact hE0), HHZ.out]
            rw [← hrd, ← HHZ.out] at hff
            subst hE0
            obtain ⟨rdd, hrdd⟩ : ∃ x, x = rdOf (b.take Z) := ⟨_, rfl⟩
            rw [← hrdd] at hff HUN
            rw [hn, hR] at HSZ ⊢
            have e0' : ((Z : Int) + (R : Int) == 0) = false := by rw [beq_eq_false_iff_ne]; omega
            have hNR : b.length = Z + R := hn.trans hR
            have HFF := Lib.hid hff; have HRD := Lib.hid hrdd; have HNR := Lib.hid hNR; have hZ0 : ¬ Z = 0 := by have := HZG.out; omega
            have HZ0 := Lib.hid hZ0; have lZR : (Z : Int) ≤ (Z : Int) + (R : Int) := by omega
            clear hff hrd hrdd hn hR hNR hZ0 e0 ln1 HN d1 dn hli hle
            rcases Decidable.em (Z = c') with hcZ | hcZ'
            · obtain rfl : R = 0 := by have := HBC.out; have := HNR.out; omega
              subst hcZ
              simp only [Nat.add_zero, Int.natCast_zero, Int.add_zero] at HSZ e0' lZR ⊢
              go_wp2_with fail
              refine HSZ.out.mono ?_; rintro e1 w1 ⟨rfl, rfl⟩
              go_wp2_with fail
              refine HUN.out.mono ?_; rintro e5 w5 ⟨vv, rfl, hOF, hW5⟩
              obtain ⟨Av, cv, rfl, _, _, _⟩ := hOF.form
              have hW6 : Within wr (w5.alloc (.cells #[.int .i64 (rdd.sensor : Int), .int .u32 (rdd.seq : Int), .int .u32 (rdd.stamp : Int), .slice Av rdd.vals.length cv] 29)) := hW5.alloc _
              have hsz6 : W1.heap.size ≤ (w5.alloc (.cells #[.int .i64 (rdd.sensor : Int), .int .u32 (rdd.seq : Int), .int .u32 (rdd.stamp : Int), .slice Av rdd.vals.length cv] 29)).heap.size := Nat.le_trans HBUT.out.size hW6.size
              have hne : (Value.slice Av rdd.vals.length cv).ownBlock = none ∨ (Value.slice Av rdd.vals.length cv).ownBlock ≠ v.ownBlock := by
                cases hx : (Value.slice Av rdd.vals.length cv).ownBlock with
                | none => exact .inl rfl
                | some j => exact .inr (fun e => by have h1 := (hOF.lt j hx).1; have h2 := (HRDS.out.own_lt j e.symm).2; omega)
              obtain ⟨v7, w7, hrun7, hrd7, hg7, hv7⟩ := run_app_rd (w5.alloc (.cells #[.int .i64 (rdd.sensor : Int), .int .u32 (rdd.seq : Int), .int .u32 (rdd.stamp : Int), .slice Av rdd.vals.length cv] 29)) W1.heap.size v rs rdd (.slice Av rdd.vals.length cv) (HRDS.out.of hW6) ((hOF.of ((Within.refl w5).alloc _)).less HBUT.out.size) hne (by have h1 := HACC.out; have h2 := HLEN.out; rw [List.length_append] at h1; omega) hsz6
              have hB7 : But bk W1 w7 := (HBUT.out.within hW6).grown hg7 hv7
              have hC7 : CellsP w7 bk kv fr dr := (HCP.out.of hW6).grown hg7 (fun e => by have := hv7 bk e.symm; omega)
              obtain ⟨r0, r1, r2, r3, rff⟩ := hC7
              have HC7 : Hid (CellsP w7 bk kv fr dr) := Lib.hid ⟨r0, r1, r2, r3, rff⟩
              have hbr7 : bk < w7.heap.size := HC7.out.lt
              rw [show (w5.alloc (.cells #[.int .i64 (rdd.sensor : Int), .int .u32 (rdd.seq : Int), .int .u32 (rdd.stamp : Int), .slice Av rdd.vals.length cv] 29)).heap.size = w5.heap.size + 1 by simp] at hrun7
              have RUN7 := Lib.hid hrun7; have HRD7 := Lib.hid hrd7; have HB7 := Lib.hid hB7; clear hrun7 hrd7 hB7 hg7 hv7 hne hOF hsz6
              go_wp2_with (at_builtin; refine wpList_append_run rfl (.tmp 52) (.tmp 54) 58 rfl _ _ rfl rfl RUN7.out ?_)
              try go_step3
              refine ⟨rfl, ⟨some ad, 0, 0, v7, rs ++ [rdd], d, b.drop Z, rfl, rfl, rfl, rfl, rfl, ?_, ?_⟩, ?_⟩
              · exact FeedRel.frame HRL.out HNR.out (by have := HZ0.out; omega) HFF.out (.inl rfl) (fun ad' e => by have := HAB.out ad rfl; injection e with e; subst e; first | exact this | (rw [add_block]; exact this)) (by have := HBC.out; have := HNR.out; omega) (HB7.out.own _) (HRD7.out.but ((But.refl bk w7).own _) hbW)
              · have hx : CellsP _ bk kv (fr + 1) dr := CellsP.fr HC7.out (fr + 1)
                rw [show D + d = dr from HDR.out.symm, show F + (rs ++ [rdd]).length = fr + 1 by rw [HFR.out, List.length_append]; rfl]
                exact hx
              · have := HZ0.out; simp [lenS]; try omega
            · have hcZ : ¬ c' = Z := fun h => hcZ' h.symm
              go_wp2_with fail
              refine HSZ.out.mono ?_; rintro e1 w1 ⟨rfl, rfl⟩
              go_wp2_with fail
              refine HUN.out.mono ?_; rintro e5 w5 ⟨vv, rfl, hOF, hW5⟩
              obtain ⟨Av, cv, rfl, _, _, _⟩ := hOF.form
              have hW6 : Within wr (w5.alloc (.cells #[.int .i64 (rdd.sensor : Int), .int .u32 (rdd.seq : Int), .int .u32 (rdd.stamp : Int), .slice Av rdd.vals.length cv] 29)) := hW5.alloc _
              have hsz6 : W1.heap.size ≤ (w5.alloc (.cells #[.int .i64 (rdd.sensor : Int), .int .u32 (rdd.seq : Int), .int .u32 (rdd.stamp : Int), .slice Av rdd.vals.length cv] 29)).heap.size := Nat.le_trans HBUT.out.size hW6.size
              have hne : (Value.slice Av rdd.vals.length cv).ownBlock = none ∨ (Value.slice Av rdd.vals.length cv).ownBlock ≠ v.ownBlock := by
                cases hx : (Value.slice Av rdd.vals.length cv).ownBlock with
                | none => exact .inl rfl
                | some j => exact .inr (fun e => by have h1 := (hOF.lt j hx).1; have h2 := (HRDS.out.own_lt j e.symm).2; omega)
              obtain ⟨v7, w7, hrun7, hrd7, hg7, hv7⟩ := run_app_rd (w5.alloc (.cells #[.int .i64 (rdd.sensor : Int), .int .u32 (rdd.seq : Int), .int .u32 (rdd.stamp : Int), .slice Av rdd.vals.length cv] 29)) W1.heap.size v rs rdd (.slice Av rdd.vals.length cv) (HRDS.out.of hW6) ((hOF.of ((Within.refl w5).alloc _)).less HBUT.out.size) hne (by have h1 := HACC.out; have h2 := HLEN.out; rw [List.length_append] at h1; omega) hsz6
              have hB7 : But bk W1 w7 := (HBUT.out.within hW6).grown hg7 hv7
              have hC7 : CellsP w7 bk kv fr dr := (HCP.out.of hW6).grown hg7 (fun e => by have := hv7 bk e.symm; omega)
              obtain ⟨r0, r1, r2, r3, rff⟩ := hC7
              have HC7 : Hid (CellsP w7 bk kv fr dr) := Lib.hid ⟨r0, r1, r2, r3, rff⟩
              have hbr7 : bk < w7.heap.size := HC7.out.lt
              rw [show (w5.alloc (.cells #[.int .i64 (rdd.sensor : Int), .int .u32 (rdd.seq : Int), .int .u32 (rdd.stamp : Int), .slice Av rdd.vals.length cv] 29)).heap.size = w5.heap.size + 1 by simp] at hrun7
              have RUN7 := Lib.hid hrun7; have HRD7 := Lib.hid hrd7; have HB7 := Lib.hid hB7; clear hrun7 hrd7 hB7 hg7 hv7 hne hOF hsz6
              go_wp2_with (at_builtin; refine wpList_append_run rfl (.tmp 52) (.tmp 54) 58 rfl _ _ rfl rfl RUN7.out ?_)
              try go_step3
              refine ⟨rfl, ⟨some (ad.add Z), R, (c' - Z), v7, rs ++ [rdd], d, b.drop Z, rfl, rfl, rfl, rfl, rfl, ?_, ?_⟩, ?_⟩
              · exact FeedRel.frame HRL.out HNR.out (by have := HZ0.out; omega) HFF.out (.inr ⟨ad, rfl, rfl⟩) (fun ad' e => by have := HAB.out ad rfl; injection e with e; subst e; first | exact this | (rw [add_block]; exact this)) (by have := HBC.out; have := HNR.out; omega) (HB7.out.own _) (HRD7.out.but ((But.refl bk w7).own _) hbW)
              · have hx : CellsP _ bk kv (fr + 1) dr := CellsP.fr HC7.out (fr + 1)
                rw [show D + d = dr from HDR.out.symm, show F + (rs ++ [rdd]).length = fr + 1 by rw [HFR.out, List.length_append]; rfl]
                exact hx
              · have := HZ0.out; simp [lenS]; try omega
          · have hne : (E != 0) = true := bne_iff_ne.2 hE0
            have hff := feedV_spoilt (F := pf) hh HHW.out (by rw [← HHZ.out, ← HE.out]; exact hE0)
            rw [hn] at HSZ ⊢
            rcases Decidable.em (c' = 1) with rfl | hc1
            all_goals
              go_wp2_with fail
              refine HSZ.out.mono ?_; rintro e1 w1 ⟨rfl, rfl⟩
              go_wp2_with fail
              refine HUN.out.mono ?_; rintro e5 w5 ⟨vv, rfl, hOF, hW5⟩
              obtain ⟨r0, r1, r2, r3, rff⟩ := HCP.out.of hW5
              have hbr5 : bk < w5.heap.size := Nat.lt_of_lt_of_le hbr hW5.size
              obtain ⟨Av, cv, rfl, _, _, _⟩ := hOF.form
              clear hOF
              go_wp2
              try go_step3
            · refine ⟨rfl, ⟨some ad, n, 0, v, rs, d + 1, b.drop 1, rfl, rfl, rfl, (by show Value.slice _ 0 0 = .slice _ n 0; rw [show n = 0 by omega]), rfl, ?_, ?_⟩, ?_⟩
              · exact FeedRel.drop1 HRL.out HN.out hff (.inl (by omega)) (fun ad' e => by have := HAB.out ad rfl; injection e with e; subst e; exact this) (by omega) (by repeat (first | with_reducible exact But.refl _ _ | with_reducible exact But.in_ hW5 | with_reducible refine But.own ?_ _ | with_reducible refine But.alloc ?_ _)) hbW
              · have hx : CellsP _ bk kv fr (dr + 1) := CellsP.dr (HCP.out.of hW5) (dr + 1)
                rw [show F + rs.length = fr from HFR.out.symm, show D + (d + 1) = dr + 1 by rw [HDR.out]; rfl]
                first | exact hx | exact hx.of ((Within.refl _).alloc _)
              · simp [lenS]; try omega
            · refine ⟨rfl, ⟨some ⟨ad.block, ad.off + 1, none⟩, n, (c' - 1), v, rs, d + 1, b.drop 1, rfl, rfl, rfl, rfl, rfl, ?_, ?_⟩, ?_⟩
              · exact FeedRel.drop1 HRL.out HN.out hff (.inr ⟨ad, rfl, rfl⟩) (fun ad' e => by have := HAB.out ad rfl; injection e with e; subst e; exact this) (by omega) (by repeat (first | with_reducible exact But.refl _ _ | with_reducible exact But.in_ hW5 | with_reducible refine But.own ?_ _ | with_reducible refine But.alloc ?_ _)) hbW
              · have hx : CellsP _ bk kv fr (dr + 1) := CellsP.dr (HCP.out.of hW5) (dr + 1)
                rw [show F + rs.length = fr from HFR.out.symm, show D + (d + 1) = dr + 1 by rw [HDR.out]; rfl]
                first | exact hx | exact hx.of ((Within.refl _).alloc _)
              · simp [lenS]; try omega
          

end Go.Proofs.YtmpcnhiklpahnaaDoor
