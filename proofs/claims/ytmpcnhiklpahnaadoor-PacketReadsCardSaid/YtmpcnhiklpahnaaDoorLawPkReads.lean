/- PacketReads: walk. -/
import Derived.Test.YtmpcnhiklpahnaaDoorPk23
import Derived.Test.YtmpcnhiklpahnaaDoorSched4
namespace Go.Proofs.YtmpcnhiklpahnaaDoor
open Go.RowKit

set_option maxRecDepth 100000 in
set_option maxHeartbeats 1000000 in
theorem reads_many (A : Option Addr) (c : Nat) (ls : List (List Nat)) (reset : Int) (hlong : 2000 < ls.length) (w : World) (hT : FmS w)  : Calls Tryd.prog 10 #[.slice A ls.length c, .int .i64 reset] w fun e w' => e = .returned (.bool true) ∧ Within w w' := by
  have HT := Lib.hid hT; clear hT
  have d3 : 2000 < ls.length := hlong
  go_enter Tryd.func10, Tryd.ntmps10
  go_wp2_with fail
  refine (awake_true _ (by exact HT.out.of (by repeat (first | with_reducible exact Within.refl _ | with_reducible assumption | with_reducible refine Within.alloc ?_ _ | with_reducible refine Within.drew ?_ | with_reducible refine Within.drewN ?_ _ | with_reducible refine Within.setCell ?_ (by first | (simp; done) | (simp; omega)) _ | with_reducible refine Within.trans ?_ (by assumption))))).mono ?_; rintro e6 w6 ⟨rfl, h6⟩
  go_wp2
  go_ret
  exact ⟨rfl, (by repeat (first | with_reducible exact Within.refl _ | with_reducible assumption | with_reducible refine Within.alloc ?_ _ | with_reducible refine Within.drew ?_ | with_reducible refine Within.drewN ?_ _ | with_reducible refine Within.setCell ?_ (by first | (simp; done) | (simp; omega)) _ | with_reducible refine Within.trans ?_ (by assumption)))⟩

set_option maxRecDepth 100000 in
set_option maxHeartbeats 1000000 in
theorem reads_ok (A : Option Addr) (c : Nat) (ls : List (List Nat)) (hl : ls.length ≤ 140737488355328) (reset : Int) (hfew : ls.length ≤ 2000) (w : World) (hT : FmS w) (hr : ChAt w A ls) : Calls Tryd.prog 10 #[.slice A ls.length c, .int .i64 reset] w fun e w' => e = .returned (.bool true) ∧ Within w w' := by
  have HT := Lib.hid hT; have HC := Lib.hid hr; clear hT hr
  have hfew' : ¬ 2000 < ls.length := by omega
  go_enter Tryd.func10, Tryd.ntmps10
  go_wp2_with fail
  refine (New_free _).mono ?_; rintro e1 w1 ⟨rfl, hR1, hW1, hz1⟩
  have HR1 := Lib.hid hR1; have HZ1 := Lib.hid hz1; clear hR1 hz1
  go_wp2
  obtain ⟨W2, hW2e⟩ : ∃ W2, W2 = w1.alloc (.cells #[.slice none 0 0, .int .i64 0, .int .i64 0] 72) := ⟨_, rfl⟩
  rw [← hW2e]
  have hW12 : Within w1 W2 := by rw [hW2e]; exact (Within.refl w1).alloc _
  have hRR : ∀ base, RdrR W2 w1.heap.size base [] 0 0 := fun base => by
    rw [hW2e]
    refine ⟨none, 0, ⟨?_, ?_, ?_, fun o => ?_⟩, Nat.le_refl _, SlAt.nil, fun ad e => by cases e⟩
    all_goals simp
  obtain ⟨bx, hbx⟩ : ∃ bx, bx = w.heap.size := ⟨_, rfl⟩
  rw [← hbx] at HR1 ⊢
  obtain ⟨bo, hbo⟩ : ∃ bo, bo = w1.heap.size := ⟨_, rfl⟩
  rw [← hbo] at hRR ⊢
  have HX2 := Lib.hid (hW1.trans hW12)
  have HP2 := Lib.hid (fun base => (HR1.out base).of hW12)
  have HQ2 := Lib.hid hRR
  have HBXW : Hid (w.heap.size ≤ bx) := Lib.hid (by omega)
  have HBOW : Hid (w.heap.size ≤ bo) := Lib.hid (by rw [hbo]; exact hW1.size)
  have HNE : Hid (bo ≠ bx) := Lib.hid (by have := HZ1.out; omega)
  have HBX : Hid (bx ≠ 1) := Lib.hid (by have := gb_lt HT.out; omega)
  clear hRR hW12 hW2e hbx hbo hW1
  go_loopw [22] (fun iv wr => ∃ i : Nat, i ≤ ls.length ∧ iv = .int .i64 (i : Int) ∧ Within w wr ∧ ∃ (K : List Nat) (F D bP bR : Nat), Bytes K ∧ K.length < 64 ∧ F ≤ i * 200000 ∧ D ≤ i * 200000 ∧ RdrP wr bx bP K F D ∧ RdrR wr bo bR K F D ∧ bx < bP ∧ bo < bP ∧ bx < bR ∧ bo < bR) (fun iv _ => ls.length - (intOf iv).toNat)
  case atStart => exact ⟨0, by omega, rfl, HX2.out, [], 0, 0, bx + bo + 1, bx + bo + 1, (fun x hx => by cases hx), by simp, by omega, by omega, HP2.out _, HQ2.out _, by omega, by omega, by omega, by omega⟩
  case round =>
    obtain ⟨i, hi, rfl, hxr, K, F, D, bP, bR, hKb, hK64, hF, hD, hRP, hRR, hbxP, hboP, hbxR, hboR⟩ := hrel
    by_cases hlt : i < ls.length
    · have hget : ls[i]? = some ls[i] := List.getElem?_eq_getElem hlt
      obtain ⟨L, hL⟩ : ∃ L, L = ls[i] := ⟨_, rfl⟩
      rw [← hL] at hget
      clear hL
      obtain ⟨ad, Ai, ci, rfl, hadl, hci, hLc, hsi, hLb⟩ := HC.out i L hget
      clear hget
      have hcr := (hxr.cell (p := ad.add i) (by rw [add_block]; exact hadl)).trans hci
      have hadr : ad.block < wr.heap.size := Nat.lt_of_lt_of_le hadl hxr.size
      have b1 : (i : Int) < (ls.length : Int) := by omega
      by_cases hlong : 100000 < L.length
      · clear hsi hLb hci hRP hRR hKb
        go_wp2_with fail
        refine (awake_true _ (HT.out.of hxr)).mono ?_; rintro e6 w6 ⟨rfl, h6⟩
        go_wp2
        go_ret
        exact ⟨rfl, hxr.trans h6⟩
      · have HCI := Lib.hid hsi; have HLB := Lib.hid hLb; have HLC := Lib.hid hLc; clear hsi hLb hci hLc
        have HBXP := Lib.hid hbxP; have HBOP := Lib.hid hboP; have HBXR := Lib.hid hbxR; have HBOR := Lib.hid hboR; clear hbxP hboP hbxR hboR
        by_cases hre : (i : Int) = reset
        · subst hre
          have ere : ((i : Int) == (i : Int)) = true := by simp
          have HRP := Lib.hid hRP; have HRQ := Lib.hid hRR; have HXR := Lib.hid hxr; have HKB0 := Lib.hid hKb; clear hRP hRR hxr hKb
          go_wp2_with fail
          refine (Reset_any bx bP K F D (by omega) wr HRP.out).mono ?_; rintro e8 w8 ⟨rfl, hP8, hB8⟩
          have hQ8 := HRQ.out.but hB8 HNE.out HBXR.out
          have hx8 := HXR.out.aside hB8 HBXW.out
          have HP8 := Lib.hid hP8; have HQ8 := Lib.hid hQ8; have HX8 := Lib.hid hx8; clear hP8 hQ8 hx8 hB8
          go_wp2_with fail
          refine (Rreset_any bo bR K F D (by omega) w8 HQ8.out).mono ?_; rintro e9 w9 ⟨rfl, hQ9, hB9⟩
          have hP9 := HP8.out.but hB9 (Ne.symm HNE.out) HBOP.out
          have hxr := HX8.out.aside hB9 HBOW.out
          obtain ⟨D0, hD0⟩ : ∃ D0, D0 = D + K.length := ⟨_, rfl⟩
          rw [← hD0] at hP9 hQ9
          have hD1 : D0 ≤ i * 200000 + 64 := by omega
          have HKB : Hid (Bytes []) := Lib.hid (fun x hx => by cases hx)
          have HKL : Hid (([] : List Nat).length ≤ 64 ∧ D0 ≤ i * 200000 + 64 ∧ F ≤ i * 200000) := Lib.hid ⟨by simp, hD1, hF⟩
          clear hD0 hB9
          have hl0 : ([] : List Nat).length = 0 := rfl
          have hs9 := HCI.out.of hxr
          obtain ⟨v1, w1, hrun1, hO1, hB1⟩ := run_app_u8 w9 w9.heap.size (.slice none 0 0) [] L (OwnB.nil_ _ _) Ai ci hs9 (by simp; omega) (Nat.le_refl _)
          rw [List.nil_append] at hO1
          have hW1 : Within w9 w1 := hB1
          obtain ⟨A1, c1, rfl, hc1, hs1, _⟩ := hO1.form
          have hx1 : Within w w1 := hxr.trans hW1
          have FD := Lib.hid (Feed_any bx HBX.out [] L HKB.out HLB.out A1 c1 (by omega) F D0 (by omega) (by omega) _ w1 (HT.out.of hx1) (hP9.of hW1) HBXP.out hs1)
          obtain ⟨hcnt, hk64, hkb, hok⟩ := feed_count (x := [] ++ L) (HKB.out.append HLB.out)
          rw [List.length_append] at hcnt
          have HRR := Lib.hid (hQ9.of hW1)
          have RFD := Lib.hid (fun (W : World) (hR : RdrR W bo bR [] F D0) (h : SlAt W Ai (u8v L)) => Rfeed_any bo [] L HKB.out HLB.out Ai ci (by omega) F D0 (by omega) (by omega) bR W hR HBOR.out h)
          have FD2 : Hid (Calls Tryd.prog 27 #[.pointer (some ⟨bx, 0, none⟩), .slice A1 L.length c1] w1 fun e w' => ∃ v, e = .returned v ∧ RdsO w' w1.heap.size v (feedV pf ([] ++ L)).1 ∧ RdrP w' bx w1.heap.size (feedV pf ([] ++ L)).2.2 (F + (feedV pf ([] ++ L)).1.length) (D0 + (feedV pf ([] ++ L)).2.1) ∧ But bx w1 w') := FD
          have RFD2 : Hid (∀ (W : World) (hR : RdrR W bo bR [] F D0) (h : SlAt W Ai (u8v L)), Calls Tryd.prog 33 #[.pointer (some ⟨bo, 0, none⟩), .slice Ai L.length ci] W fun e w' => ∃ v, e = .returned v ∧ RdsO w' W.heap.size v (feedV pf ([] ++ L)).1 ∧ RdrR w' bo W.heap.size (feedV pf ([] ++ L)).2.2 (F + (feedV pf ([] ++ L)).1.length) (D0 + (feedV pf ([] ++ L)).2.1) ∧ But bo W w') := RFD
          clear FD RFD
          obtain ⟨rs, hrs⟩ : ∃ x, x = (feedV pf ([] ++ L)).1 := ⟨_, rfl⟩
          rw [← hrs] at FD2 RFD2 hcnt hok
          clear hrs
          obtain ⟨K2, hK2⟩ : ∃ x, x = (feedV pf ([] ++ L)).2.2 := ⟨_, rfl⟩
          rw [← hK2] at FD2 RFD2 hcnt hk64 hkb
          clear hK2
          obtain ⟨d2, hd2⟩ : ∃ x, x = (feedV pf ([] ++ L)).2.1 := ⟨_, rfl⟩
          rw [← hd2] at FD2 RFD2 hcnt
          clear hd2
          obtain ⟨F2, hF2⟩ : ∃ x, x = F + rs.length := ⟨_, rfl⟩
          rw [← hF2] at FD2 RFD2
          obtain ⟨D2, hD2⟩ : ∃ x, x = D0 + d2 := ⟨_, rfl⟩
          rw [← hD2] at FD2 RFD2
          have HFD := Lib.hid hF2; have HDD := Lib.hid hD2; have HCN := Lib.hid hcnt; have HK64 := Lib.hid hk64; have HKB2 := Lib.hid hkb; have HOK := Lib.hid hok
          have RUNA := Lib.hid hrun1; have HW1 := Lib.hid hW1; have HX1 := Lib.hid hx1; have HSI := Lib.hid (hs9.of hW1)
          have hbow1 : bo < w1.heap.size := HRR.out.lt
          have HBXW1 : Hid (bx < w1.heap.size) := Lib.hid (hP9.of hW1).lt
          clear hF2 hD2 hcnt hk64 hkb hok hrun1 hW1 hx1 hs1 hO1 hB1 hc1
          obtain ⟨n2, hn2⟩ : ∃ x, x = K2.length := ⟨_, rfl⟩
          have HN2 := Lib.hid hn2; clear hn2
          go_wp2_with (at_builtin; refine wpList_append_run rfl (.const (.slice none 0 0)) (.tmp 39) 26 rfl _ _ rfl rfl RUNA.out ?_)
          refine FD2.out.mono ?_; rintro e2 w2 ⟨v2, rfl, hO2, hR2, hB2⟩
          obtain ⟨A2, c2, rfl, _, hat2, hA2⟩ := hO2.at
          have hRR2 := HRR.out.but hB2 HNE.out HBXR.out
          have hx2 : Within w w2 := HX1.out.aside hB2 HBXW.out
          have HO2 := Lib.hid hO2; have HR2 := Lib.hid hR2; have HRR2 := Lib.hid hRR2; have HX2 := Lib.hid hx2; have HB2 := Lib.hid hB2; clear hO2 hR2 hRR2 hx2 hB2 hat2 hA2
          have hfd0 : ∀ w : World, (Instr.field 64 (.agg #[.int .i64 (F2 : Int), .int .i64 (D2 : Int)]) 0).run Tryd.prog w = .ok (.int .i64 (F2 : Int)) w := fun _ => by kernel_rfl
          have hfd1 : ∀ w : World, (Instr.field 64 (.agg #[.int .i64 (F2 : Int), .int .i64 (D2 : Int)]) 1).run Tryd.prog w = .ok (.int .i64 (D2 : Int)) w := fun _ => by kernel_rfl
          have ef : ((F2 : Int) != (F2 : Int)) = false := by simp
          have ed : ((D2 : Int) != (D2 : Int)) = false := by simp
          have en : ((n2 : Int) != (n2 : Int)) = false := by simp
          go_wp2_with fail
          refine wp_region_shf (fun _ => True) (fun W => W = w2 ∧ True) 35 (.firm 0 (.firm 1 (.firm 2 (.one 3 (.turn (.sch (.one 4 (.firm 5 (.firm 6 (.firm 7 (.firm 9 (.firm 10 (.firm 11 (.firm 12 (.firm 13 (.one 8 (.firm 14 (.firm 15 (.firm 16 (.firm 17 (.firm 20 (.firm 21 (.firm 22 (.firm 23 (.one 18 (.firm 19 (.firm 24 (.firm 25 (.firm 26 (.firm 27 (.firm 30 (.firm 31 (.firm 32 (.firm 33 (.one 28 (.firm 29 (.firm 34 (.one 35 .nil)))))))))))))))))))))))))))))))))))))) (by kernel_rfl) (by kernel_rfl) ⟨rfl, True.intro⟩ ?_
          rintro w0 ⟨rfl, _⟩
          try simp only [Act.put, List.setIfInBounds_toArray, List.set_cons_zero, List.set_cons_succ]
          apply shf_firm rfl rfl trivial
          · intro wq _
            go_simp
            first | rfl | (trace_state; fail)
          try simp only [Act.put, List.setIfInBounds_toArray, List.set_cons_zero, List.set_cons_succ]
          apply shf_firm rfl rfl trivial
          · intro wq _
            go_simp
            first | rfl | (trace_state; fail)
          try simp only [Act.put, List.setIfInBounds_toArray, List.set_cons_zero, List.set_cons_succ]
          apply shf_firm rfl rfl trivial
          · intro wq _
            go_simp
            first | rfl | (trace_state; fail)
          try simp only [Act.put, List.setIfInBounds_toArray, List.set_cons_zero, List.set_cons_succ]
          refine shf_one rfl rfl (fun K hK => ?_)
          go_simp
          have hsi2 : SlAt w0 Ai (u8v L) := HCI.out.of HX2.out
          refine (RFD2.out _ (HRR2.out.of ((Within.refl _).drew)) (hsi2.of ((Within.refl _).drew))).mono ?_; rintro e3 w3 ⟨v3, rfl, hO3, hR3, hB3⟩
          have hB3' : But bo w0 w3 := (But.in_ ((Within.refl w0).drew)).trans hB3
          have hP3 := HR2.out.but hB3' (Ne.symm HNE.out) hbow1
          have hO23 := HO2.out.but hB3' hbow1
          obtain ⟨A2', c2', hv2, _, hat2, _⟩ := hO23.at
          injection hv2 with e1 _ e2
          subst e1
          subst e2
          obtain ⟨A3, c3, rfl, _, hat3, _⟩ := hO3.at
          have hx3 : Within w w3 := HX2.out.aside hB3' HBOW.out
          have HP3 := Lib.hid hP3; have HR3 := Lib.hid hR3; have HX3 := Lib.hid hx3
          obtain ⟨Ar, cr, ⟨r0, r1, r2, rff⟩, _⟩ := hR3
          rw [← HN2.out] at r0
          have hbl3 := HR3.out.lt
          clear hO3 hO23 hP3 hx3 hB3
          refine hK _ _ trivial ?_
          clear hK K
          try simp only [Act.put, List.setIfInBounds_toArray, List.set_cons_zero, List.set_cons_succ]
          refine shf_turn (Within w3) (fun _ _ => trivial) ?_
          refine shf_sch ?_
          refine sch_one rfl rfl (fun K hK => ?_)
          go_simp
          refine (Rsameall_any A2 A3 c2 c3 rs (by have := HCN.out; omega) (fun r hr => (HOK.out r hr).len) _ hat2 hat3).mono ?_; rintro e4 w4 ⟨rfl, h4⟩
          refine hK _ _ (fun _ => (by repeat (first | with_reducible exact Within.refl _ | with_reducible assumption | with_reducible refine Within.alloc ?_ _ | with_reducible refine Within.drew ?_ | with_reducible refine Within.drewN ?_ _ | with_reducible refine Within.setCell ?_ (by first | (simp; done) | (simp; omega)) _ | with_reducible refine Within.trans ?_ (by assumption)))) ?_
          clear hK K
          try simp only [Act.put, List.setIfInBounds_toArray, List.set_cons_zero, List.set_cons_succ]
          apply sch_firm rfl rfl (by repeat (first | with_reducible exact Within.refl _ | with_reducible assumption | with_reducible refine Within.alloc ?_ _ | with_reducible refine Within.drew ?_ | with_reducible refine Within.drewN ?_ _ | with_reducible refine Within.setCell ?_ (by first | (simp; done) | (simp; omega)) _ | with_reducible refine Within.trans ?_ (by assumption)))
          · intro wq hq
            have hcq := hq.cells
            clear hq
            go_simp
            first | rfl | (trace_state; fail)
          try simp only [Act.put, List.setIfInBounds_toArray, List.set_cons_zero, List.set_cons_succ]
          apply sch_firm rfl rfl (by repeat (first | with_reducible exact Within.refl _ | with_reducible assumption | with_reducible refine Within.alloc ?_ _ | with_reducible refine Within.drew ?_ | with_reducible refine Within.drewN ?_ _ | with_reducible refine Within.setCell ?_ (by first | (simp; done) | (simp; omega)) _ | with_reducible refine Within.trans ?_ (by assumption)))
          · intro wq hq
            have hcq := hq.cells
            clear hq
            go_simp
            first | rfl | (trace_state; fail)
          try simp only [Act.put, List.setIfInBounds_toArray, List.set_cons_zero, List.set_cons_succ]
          apply sch_want rfl (by first | rfl | decide | (simp [Region.wanted, yielded]; done)) (by repeat (first | with_reducible exact Within.refl _ | with_reducible assumption | with_reducible refine Within.alloc ?_ _ | with_reducible refine Within.drew ?_ | with_reducible refine Within.drewN ?_ _ | with_reducible refine Within.setCell ?_ (by first | (simp; done) | (simp; omega)) _ | with_reducible refine Within.trans ?_ (by assumption)))
          · intro wq hq
            have hcq := hq.cells
            clear hq
            go_simp
            first | rfl | (trace_state; fail)
          try simp only [Act.put, List.setIfInBounds_toArray, List.set_cons_zero, List.set_cons_succ]
          apply sch_want rfl (by first | rfl | decide | (simp [Region.wanted, yielded]; done)) (by repeat (first | with_reducible exact Within.refl _ | with_reducible assumption | with_reducible refine Within.alloc ?_ _ | with_reducible refine Within.drew ?_ | with_reducible refine Within.drewN ?_ _ | with_reducible refine Within.setCell ?_ (by first | (simp; done) | (simp; omega)) _ | with_reducible refine Within.trans ?_ (by assumption)))
          · intro wq hq
            have hcq := hq.cells
            clear hq
            go_simp
            first | rfl | (trace_state; fail)
          try simp only [Act.put, List.setIfInBounds_toArray, List.set_cons_zero, List.set_cons_succ]
          apply sch_want rfl (by first | rfl | decide | (simp [Region.wanted, yielded]; done)) (by repeat (first | with_reducible exact Within.refl _ | with_reducible assumption | with_reducible refine Within.alloc ?_ _ | with_reducible refine Within.drew ?_ | with_reducible refine Within.drewN ?_ _ | with_reducible refine Within.setCell ?_ (by first | (simp; done) | (simp; omega)) _ | with_reducible refine Within.trans ?_ (by assumption)))
          · intro wq hq
            have hcq := hq.cells
            clear hq
            go_simp
            first | rfl | (trace_state; fail)
          try simp only [Act.put, List.setIfInBounds_toArray, List.set_cons_zero, List.set_cons_succ]
          apply sch_want rfl (by first | rfl | decide | (simp [Region.wanted, yielded]; done)) (by repeat (first | with_reducible exact Within.refl _ | with_reducible assumption | with_reducible refine Within.alloc ?_ _ | with_reducible refine Within.drew ?_ | with_reducible refine Within.drewN ?_ _ | with_reducible refine Within.setCell ?_ (by first | (simp; done) | (simp; omega)) _ | with_reducible refine Within.trans ?_ (by assumption)))
          · intro wq hq
            have hcq := hq.cells
            clear hq
            go_simp
            first | rfl | (trace_state; fail)
          try simp only [Act.put, List.setIfInBounds_toArray, List.set_cons_zero, List.set_cons_succ]
          apply sch_want rfl (by first | rfl | decide | (simp [Region.wanted, yielded]; done)) (by repeat (first | with_reducible exact Within.refl _ | with_reducible assumption | with_reducible refine Within.alloc ?_ _ | with_reducible refine Within.drew ?_ | with_reducible refine Within.drewN ?_ _ | with_reducible refine Within.setCell ?_ (by first | (simp; done) | (simp; omega)) _ | with_reducible refine Within.trans ?_ (by assumption)))
          · intro wq hq
            have hcq := hq.cells
            clear hq
            go_simp
            first | rfl | (trace_state; fail)
          try simp only [Act.put, List.setIfInBounds_toArray, List.set_cons_zero, List.set_cons_succ]
          apply sch_want rfl (by first | rfl | decide | (simp [Region.wanted, yielded]; done)) (by repeat (first | with_reducible exact Within.refl _ | with_reducible assumption | with_reducible refine Within.alloc ?_ _ | with_reducible refine Within.drew ?_ | with_reducible refine Within.drewN ?_ _ | with_reducible refine Within.setCell ?_ (by first | (simp; done) | (simp; omega)) _ | with_reducible refine Within.trans ?_ (by assumption)))
          · intro wq hq
            have hcq := hq.cells
            clear hq
            go_simp
            first | rfl | (trace_state; fail)
          try simp only [Act.put, List.setIfInBounds_toArray, List.set_cons_zero, List.set_cons_succ]
          refine sch_one_want rfl (by first | rfl | decide | (simp [Region.wanted, yielded]; done)) (fun K hK => ?_)
          go_simp
          refine (Waiting_any bx _ K2 F2 D2 _ (HP3.out.of (by repeat (first | with_reducible exact Within.refl _ | with_reducible assumption | with_reducible refine Within.alloc ?_ _ | with_reducible refine Within.drew ?_ | with_reducible refine Within.drewN ?_ _ | with_reducible refine Within.setCell ?_ (by first | (simp; done) | (simp; omega)) _ | with_reducible refine Within.trans ?_ (by assumption))))).mono ?_; rintro e5 w5 ⟨rfl, rfl⟩
          rw [← HN2.out]
          refine hK _ _ (fun _ => (by repeat (first | with_reducible exact Within.refl _ | with_reducible assumption | with_reducible refine Within.alloc ?_ _ | with_reducible refine Within.drew ?_ | with_reducible refine Within.drewN ?_ _ | with_reducible refine Within.setCell ?_ (by first | (simp; done) | (simp; omega)) _ | with_reducible refine Within.trans ?_ (by assumption)))) ?_
          clear hK K
          try simp only [Act.put, List.setIfInBounds_toArray, List.set_cons_zero, List.set_cons_succ]
          apply sch_want rfl (by first | rfl | decide | (simp [Region.wanted, yielded]; done)) (by repeat (first | with_reducible exact Within.refl _ | with_reducible assumption | with_reducible refine Within.alloc ?_ _ | with_reducible refine Within.drew ?_ | with_reducible refine Within.drewN ?_ _ | with_reducible refine Within.setCell ?_ (by first | (simp; done) | (simp; omega)) _ | with_reducible refine Within.trans ?_ (by assumption)))
          · intro wq hq
            have hcq := hq.cells
            clear hq
            go_simp
            first | rfl | (trace_state; fail)
          try simp only [Act.put, List.setIfInBounds_toArray, List.set_cons_zero, List.set_cons_succ]
          apply sch_firm rfl rfl (by repeat (first | with_reducible exact Within.refl _ | with_reducible assumption | with_reducible refine Within.alloc ?_ _ | with_reducible refine Within.drew ?_ | with_reducible refine Within.drewN ?_ _ | with_reducible refine Within.setCell ?_ (by first | (simp; done) | (simp; omega)) _ | with_reducible refine Within.trans ?_ (by assumption)))
          · intro wq hq
            have hcq := hq.cells
            clear hq
            go_simp
            first | rfl | (trace_state; fail)
          try simp only [Act.put, List.setIfInBounds_toArray, List.set_cons_zero, List.set_cons_succ]
          apply sch_firm rfl rfl (by repeat (first | with_reducible exact Within.refl _ | with_reducible assumption | with_reducible refine Within.alloc ?_ _ | with_reducible refine Within.drew ?_ | with_reducible refine Within.drewN ?_ _ | with_reducible refine Within.setCell ?_ (by first | (simp; done) | (simp; omega)) _ | with_reducible refine Within.trans ?_ (by assumption)))
          · intro wq hq
            have hcq := hq.cells
            clear hq
            go_simp
            first | rfl | (trace_state; fail)
          try simp only [Act.put, List.setIfInBounds_toArray, List.set_cons_zero, List.set_cons_succ]
          apply sch_want rfl (by first | rfl | decide | (simp [Region.wanted, yielded]; done)) (by repeat (first | with_reducible exact Within.refl _ | with_reducible assumption | with_reducible refine Within.alloc ?_ _ | with_reducible refine Within.drew ?_ | with_reducible refine Within.drewN ?_ _ | with_reducible refine Within.setCell ?_ (by first | (simp; done) | (simp; omega)) _ | with_reducible refine Within.trans ?_ (by assumption)))
          · intro wq hq
            have hcq := hq.cells
            clear hq
            go_simp
            first | rfl | (trace_state; fail)
          try simp only [Act.put, List.setIfInBounds_toArray, List.set_cons_zero, List.set_cons_succ]
          apply sch_want rfl (by first | rfl | decide | (simp [Region.wanted, yielded]; done)) (by repeat (first | with_reducible exact Within.refl _ | with_reducible assumption | with_reducible refine Within.alloc ?_ _ | with_reducible refine Within.drew ?_ | with_reducible refine Within.drewN ?_ _ | with_reducible refine Within.setCell ?_ (by first | (simp; done) | (simp; omega)) _ | with_reducible refine Within.trans ?_ (by assumption)))
          · intro wq hq
            have hcq := hq.cells
            clear hq
            go_simp
            first | rfl | (trace_state; fail)
          try simp only [Act.put, List.setIfInBounds_toArray, List.set_cons_zero, List.set_cons_succ]
          apply sch_want rfl (by first | rfl | decide | (simp [Region.wanted, yielded]; done)) (by repeat (first | with_reducible exact Within.refl _ | with_reducible assumption | with_reducible refine Within.alloc ?_ _ | with_reducible refine Within.drew ?_ | with_reducible refine Within.drewN ?_ _ | with_reducible refine Within.setCell ?_ (by first | (simp; done) | (simp; omega)) _ | with_reducible refine Within.trans ?_ (by assumption)))
          · intro wq hq
            have hcq := hq.cells
            clear hq
            go_simp
            first | rfl | (trace_state; fail)
          try simp only [Act.put, List.setIfInBounds_toArray, List.set_cons_zero, List.set_cons_succ]
          apply sch_want rfl (by first | rfl | decide | (simp [Region.wanted, yielded]; done)) (by repeat (first | with_reducible exact Within.refl _ | with_reducible assumption | with_reducible refine Within.alloc ?_ _ | with_reducible refine Within.drew ?_ | with_reducible refine Within.drewN ?_ _ | with_reducible refine Within.setCell ?_ (by first | (simp; done) | (simp; omega)) _ | with_reducible refine Within.trans ?_ (by assumption)))
          · intro wq hq
            have hcq := hq.cells
            clear hq
            go_simp
            first | rfl | (trace_state; fail)
          try simp only [Act.put, List.setIfInBounds_toArray, List.set_cons_zero, List.set_cons_succ]
          apply sch_want rfl (by first | rfl | decide | (simp [Region.wanted, yielded]; done)) (by repeat (first | with_reducible exact Within.refl _ | with_reducible assumption | with_reducible refine Within.alloc ?_ _ | with_reducible refine Within.drew ?_ | with_reducible refine Within.drewN ?_ _ | with_reducible refine Within.setCell ?_ (by first | (simp; done) | (simp; omega)) _ | with_reducible refine Within.trans ?_ (by assumption)))
          · intro wq hq
            have hcq := hq.cells
            clear hq
            go_simp
            first | rfl | (trace_state; fail)
          try simp only [Act.put, List.setIfInBounds_toArray, List.set_cons_zero, List.set_cons_succ]
          refine sch_one_want rfl (by first | rfl | decide | (simp [Region.wanted, yielded]; done)) (fun K hK => ?_)
          go_simp
          refine (Noted_any bx _ K2 F2 D2 _ (HP3.out.of (by repeat (first | with_reducible exact Within.refl _ | with_reducible assumption | with_reducible refine Within.alloc ?_ _ | with_reducible refine Within.drew ?_ | with_reducible refine Within.drewN ?_ _ | with_reducible refine Within.setCell ?_ (by first | (simp; done) | (simp; omega)) _ | with_reducible refine Within.trans ?_ (by assumption))))).mono ?_; rintro e6 w6 ⟨rfl, h6⟩
          refine hK _ _ (fun _ => (by repeat (first | with_reducible exact Within.refl _ | with_reducible assumption | with_reducible refine Within.alloc ?_ _ | with_reducible refine Within.drew ?_ | with_reducible refine Within.drewN ?_ _ | with_reducible refine Within.setCell ?_ (by first | (simp; done) | (simp; omega)) _ | with_reducible refine Within.trans ?_ (by assumption)))) ?_
          clear hK K
          try simp only [Act.put, List.setIfInBounds_toArray, List.set_cons_zero, List.set_cons_succ]
          apply sch_want rfl (by first | rfl | decide | (simp [Region.wanted, yielded]; done)) (by repeat (first | with_reducible exact Within.refl _ | with_reducible assumption | with_reducible refine Within.alloc ?_ _ | with_reducible refine Within.drew ?_ | with_reducible refine Within.drewN ?_ _ | with_reducible refine Within.setCell ?_ (by first | (simp; done) | (simp; omega)) _ | with_reducible refine Within.trans ?_ (by assumption)))
          · intro wq hq
            have hcq := hq.cells
            clear hq
            go_simp
            first | rfl | (trace_state; fail)
          try simp only [Act.put, List.setIfInBounds_toArray, List.set_cons_zero, List.set_cons_succ]
          apply sch_want rfl (by first | rfl | decide | (simp [Region.wanted, yielded]; done)) (by repeat (first | with_reducible exact Within.refl _ | with_reducible assumption | with_reducible refine Within.alloc ?_ _ | with_reducible refine Within.drew ?_ | with_reducible refine Within.drewN ?_ _ | with_reducible refine Within.setCell ?_ (by first | (simp; done) | (simp; omega)) _ | with_reducible refine Within.trans ?_ (by assumption)))
          · intro wq hq
            have hcq := hq.cells
            clear hq
            go_simp
            first | rfl | (trace_state; fail)
          try simp only [Act.put, List.setIfInBounds_toArray, List.set_cons_zero, List.set_cons_succ]
          apply sch_firm rfl rfl (by repeat (first | with_reducible exact Within.refl _ | with_reducible assumption | with_reducible refine Within.alloc ?_ _ | with_reducible refine Within.drew ?_ | with_reducible refine Within.drewN ?_ _ | with_reducible refine Within.setCell ?_ (by first | (simp; done) | (simp; omega)) _ | with_reducible refine Within.trans ?_ (by assumption)))
          · intro wq hq
            have hcq := hq.cells
            clear hq
            go_simp
            first | rfl | (trace_state; fail)
          try simp only [Act.put, List.setIfInBounds_toArray, List.set_cons_zero, List.set_cons_succ]
          apply sch_firm rfl rfl (by repeat (first | with_reducible exact Within.refl _ | with_reducible assumption | with_reducible refine Within.alloc ?_ _ | with_reducible refine Within.drew ?_ | with_reducible refine Within.drewN ?_ _ | with_reducible refine Within.setCell ?_ (by first | (simp; done) | (simp; omega)) _ | with_reducible refine Within.trans ?_ (by assumption)))
          · intro wq hq
            have hcq := hq.cells
            clear hq
            go_simp
            first | rfl | (trace_state; fail)
          try simp only [Act.put, List.setIfInBounds_toArray, List.set_cons_zero, List.set_cons_succ]
          apply sch_want rfl (by first | rfl | decide | (simp [Region.wanted, yielded]; done)) (by repeat (first | with_reducible exact Within.refl _ | with_reducible assumption | with_reducible refine Within.alloc ?_ _ | with_reducible refine Within.drew ?_ | with_reducible refine Within.drewN ?_ _ | with_reducible refine Within.setCell ?_ (by first | (simp; done) | (simp; omega)) _ | with_reducible refine Within.trans ?_ (by assumption)))
          · intro wq hq
            have hcq := hq.cells
            clear hq
            go_simp
            first | rfl | (trace_state; fail)
          try simp only [Act.put, List.setIfInBounds_toArray, List.set_cons_zero, List.set_cons_succ]
          apply sch_want rfl (by first | rfl | decide | (simp [Region.wanted, yielded]; done)) (by repeat (first | with_reducible exact Within.refl _ | with_reducible assumption | with_reducible refine Within.alloc ?_ _ | with_reducible refine Within.drew ?_ | with_reducible refine Within.drewN ?_ _ | with_reducible refine Within.setCell ?_ (by first | (simp; done) | (simp; omega)) _ | with_reducible refine Within.trans ?_ (by assumption)))
          · intro wq hq
            have hcq := hq.cells
            clear hq
            go_simp
            first | rfl | (trace_state; fail)
          try simp only [Act.put, List.setIfInBounds_toArray, List.set_cons_zero, List.set_cons_succ]
          apply sch_want rfl (by first | rfl | decide | (simp [Region.wanted, yielded]; done)) (by repeat (first | with_reducible exact Within.refl _ | with_reducible assumption | with_reducible refine Within.alloc ?_ _ | with_reducible refine Within.drew ?_ | with_reducible refine Within.drewN ?_ _ | with_reducible refine Within.setCell ?_ (by first | (simp; done) | (simp; omega)) _ | with_reducible refine Within.trans ?_ (by assumption)))
          · intro wq hq
            have hcq := hq.cells
            clear hq
            go_simp
            first | rfl | (trace_state; fail)
          try simp only [Act.put, List.setIfInBounds_toArray, List.set_cons_zero, List.set_cons_succ]
          apply sch_want rfl (by first | rfl | decide | (simp [Region.wanted, yielded]; done)) (by repeat (first | with_reducible exact Within.refl _ | with_reducible assumption | with_reducible refine Within.alloc ?_ _ | with_reducible refine Within.drew ?_ | with_reducible refine Within.drewN ?_ _ | with_reducible refine Within.setCell ?_ (by first | (simp; done) | (simp; omega)) _ | with_reducible refine Within.trans ?_ (by assumption)))
          · intro wq hq
            have hcq := hq.cells
            clear hq
            go_simp
            first | rfl | (trace_state; fail)
          try simp only [Act.put, List.setIfInBounds_toArray, List.set_cons_zero, List.set_cons_succ]
          apply sch_want rfl (by first | rfl | decide | (simp [Region.wanted, yielded]; done)) (by repeat (first | with_reducible exact Within.refl _ | with_reducible assumption | with_reducible refine Within.alloc ?_ _ | with_reducible refine Within.drew ?_ | with_reducible refine Within.drewN ?_ _ | with_reducible refine Within.setCell ?_ (by first | (simp; done) | (simp; omega)) _ | with_reducible refine Within.trans ?_ (by assumption)))
          · intro wq hq
            have hcq := hq.cells
            clear hq
            go_simp
            first | rfl | (trace_state; fail)
          try simp only [Act.put, List.setIfInBounds_toArray, List.set_cons_zero, List.set_cons_succ]
          refine sch_one_want rfl (by first | rfl | decide | (simp [Region.wanted, yielded]; done)) (fun K hK => ?_)
          go_simp
          refine (Noted_any bx _ K2 F2 D2 _ (HP3.out.of (by repeat (first | with_reducible exact Within.refl _ | with_reducible assumption | with_reducible refine Within.alloc ?_ _ | with_reducible refine Within.drew ?_ | with_reducible refine Within.drewN ?_ _ | with_reducible refine Within.setCell ?_ (by first | (simp; done) | (simp; omega)) _ | with_reducible refine Within.trans ?_ (by assumption))))).mono ?_; rintro e7 w7 ⟨rfl, h7⟩
          refine hK _ _ (fun _ => (by repeat (first | with_reducible exact Within.refl _ | with_reducible assumption | with_reducible refine Within.alloc ?_ _ | with_reducible refine Within.drew ?_ | with_reducible refine Within.drewN ?_ _ | with_reducible refine Within.setCell ?_ (by first | (simp; done) | (simp; omega)) _ | with_reducible refine Within.trans ?_ (by assumption)))) ?_
          clear hK K
          try simp only [Act.put, List.setIfInBounds_toArray, List.set_cons_zero, List.set_cons_succ]
          apply sch_want rfl (by first | rfl | decide | (simp [Region.wanted, yielded]; done)) (by repeat (first | with_reducible exact Within.refl _ | with_reducible assumption | with_reducible refine Within.alloc ?_ _ | with_reducible refine Within.drew ?_ | with_reducible refine Within.drewN ?_ _ | with_reducible refine Within.setCell ?_ (by first | (simp; done) | (simp; omega)) _ | with_reducible refine Within.trans ?_ (by assumption)))
          · intro wq hq
            have hcq := hq.cells
            clear hq
            go_simp
            first | rfl | (trace_state; fail)
          try simp only [Act.put, List.setIfInBounds_toArray, List.set_cons_zero, List.set_cons_succ]
          apply sch_want rfl (by first | rfl | decide | (simp [Region.wanted, yielded]; done)) (by repeat (first | with_reducible exact Within.refl _ | with_reducible assumption | with_reducible refine Within.alloc ?_ _ | with_reducible refine Within.drew ?_ | with_reducible refine Within.drewN ?_ _ | with_reducible refine Within.setCell ?_ (by first | (simp; done) | (simp; omega)) _ | with_reducible refine Within.trans ?_ (by assumption)))
          · intro wq hq
            have hcq := hq.cells
            clear hq
            go_simp
            first | rfl | (trace_state; fail)
          try simp only [Act.put, List.setIfInBounds_toArray, List.set_cons_zero, List.set_cons_succ]
          refine sch_one rfl rfl (fun K hK => ?_)
          go_simp
          refine hK _ _ (fun h => absurd h (by decide)) ?_
          clear hK K
          try simp only [Act.put, List.setIfInBounds_toArray, List.set_cons_zero, List.set_cons_succ]
          refine sch_nil ?_
          have hw7 : Within w3 w7 := (by repeat (first | with_reducible exact Within.refl _ | with_reducible assumption | with_reducible refine Within.alloc ?_ _ | with_reducible refine Within.drew ?_ | with_reducible refine Within.drewN ?_ _ | with_reducible refine Within.setCell ?_ (by first | (simp; done) | (simp; omega)) _ | with_reducible refine Within.trans ?_ (by assumption)))
          clear h4 h6 h7
          go_wp2
          go_roundw
          case rel => exact ⟨i + 1, hlt, by go_num, HX3.out.trans hw7, K2, F2, D2, _, _, HKB2.out, HK64.out, by have := HFD.out; have := HCN.out; have := HKL.out; omega, by have := HDD.out; have := HCN.out; have := HKL.out; omega, HP3.out.of hw7, HR3.out.of hw7, HBXW1.out, hbow1, Nat.lt_of_lt_of_le HR2.out.lt (Nat.le_refl _), Nat.lt_of_lt_of_le HRR2.out.lt (Nat.le_refl _)⟩
          case measure => simp [intOf]; omega
        · have ere : ((i : Int) == reset) = false := beq_eq_false_iff_ne.2 hre
          have HKB := Lib.hid hKb; clear hKb
          have HKL : Hid (K.length ≤ 64 ∧ D ≤ i * 200000 + 64 ∧ F ≤ i * 200000) := Lib.hid ⟨Nat.le_of_lt hK64, Nat.le_trans hD (Nat.le_add_right _ _), hF⟩
          have hsr := HCI.out.of hxr
          obtain ⟨v1, w1, hrun1, hO1, hB1⟩ := run_app_u8 wr wr.heap.size (.slice none 0 0) [] L (OwnB.nil_ _ _) Ai ci hsr (by simp; omega) (Nat.le_refl _)
          rw [List.nil_append] at hO1
          have hW1 : Within wr w1 := hB1
          obtain ⟨A1, c1, rfl, hc1, hs1, _⟩ := hO1.form
          have hx1 : Within w w1 := hxr.trans hW1
          have FD := Lib.hid (Feed_any bx HBX.out K L HKB.out HLB.out A1 c1 (by omega) F D (by omega) (by omega) _ w1 (HT.out.of hx1) (hRP.of hW1) HBXP.out hs1)
          obtain ⟨hcnt, hk64, hkb, hok⟩ := feed_count (x := K ++ L) (HKB.out.append HLB.out)
          rw [List.length_append] at hcnt
          have HRR := Lib.hid (hRR.of hW1)
          have RFD := Lib.hid (fun (W : World) (hR : RdrR W bo bR K F D) (h : SlAt W Ai (u8v L)) => Rfeed_any bo K L HKB.out HLB.out Ai ci (by omega) F D (by omega) (by omega) bR W hR HBOR.out h)
          have FD2 : Hid (Calls Tryd.prog 27 #[.pointer (some ⟨bx, 0, none⟩), .slice A1 L.length c1] w1 fun e w' => ∃ v, e = .returned v ∧ RdsO w' w1.heap.size v (feedV pf (K ++ L)).1 ∧ RdrP w' bx w1.heap.size (feedV pf (K ++ L)).2.2 (F + (feedV pf (K ++ L)).1.length) (D + (feedV pf (K ++ L)).2.1) ∧ But bx w1 w') := FD
          have RFD2 : Hid (∀ (W : World) (hR : RdrR W bo bR K F D) (h : SlAt W Ai (u8v L)), Calls Tryd.prog 33 #[.pointer (some ⟨bo, 0, none⟩), .slice Ai L.length ci] W fun e w' => ∃ v, e = .returned v ∧ RdsO w' W.heap.size v (feedV pf (K ++ L)).1 ∧ RdrR w' bo W.heap.size (feedV pf (K ++ L)).2.2 (F + (feedV pf (K ++ L)).1.length) (D + (feedV pf (K ++ L)).2.1) ∧ But bo W w') := RFD
          clear FD RFD
          obtain ⟨rs, hrs⟩ : ∃ x, x = (feedV pf (K ++ L)).1 := ⟨_, rfl⟩
          rw [← hrs] at FD2 RFD2 hcnt hok
          clear hrs
          obtain ⟨K2, hK2⟩ : ∃ x, x = (feedV pf (K ++ L)).2.2 := ⟨_, rfl⟩
          rw [← hK2] at FD2 RFD2 hcnt hk64 hkb
          clear hK2
          obtain ⟨d2, hd2⟩ : ∃ x, x = (feedV pf (K ++ L)).2.1 := ⟨_, rfl⟩
          rw [← hd2] at FD2 RFD2 hcnt
          clear hd2
          obtain ⟨F2, hF2⟩ : ∃ x, x = F + rs.length := ⟨_, rfl⟩
          rw [← hF2] at FD2 RFD2
          obtain ⟨D2, hD2⟩ : ∃ x, x = D + d2 := ⟨_, rfl⟩
          rw [← hD2] at FD2 RFD2
          have HFD := Lib.hid hF2; have HDD := Lib.hid hD2; have HCN := Lib.hid hcnt; have HK64 := Lib.hid hk64; have HKB2 := Lib.hid hkb; have HOK := Lib.hid hok
          have RUNA := Lib.hid hrun1; have HW1 := Lib.hid hW1; have HX1 := Lib.hid hx1; have HSI := Lib.hid (hsr.of hW1)
          have hbow1 : bo < w1.heap.size := HRR.out.lt
          have HBXW1 : Hid (bx < w1.heap.size) := Lib.hid (hRP.of hW1).lt
          clear hF2 hD2 hcnt hk64 hkb hok hrun1 hW1 hx1 hs1 hO1 hB1 hc1
          obtain ⟨n2, hn2⟩ : ∃ x, x = K2.length := ⟨_, rfl⟩
          have HN2 := Lib.hid hn2; clear hn2
          go_wp2_with (at_builtin; refine wpList_append_run rfl (.const (.slice none 0 0)) (.tmp 39) 26 rfl _ _ rfl rfl RUNA.out ?_)
          refine FD2.out.mono ?_; rintro e2 w2 ⟨v2, rfl, hO2, hR2, hB2⟩
          obtain ⟨A2, c2, rfl, _, hat2, hA2⟩ := hO2.at
          have hRR2 := HRR.out.but hB2 HNE.out HBXR.out
          have hx2 : Within w w2 := HX1.out.aside hB2 HBXW.out
          have HO2 := Lib.hid hO2; have HR2 := Lib.hid hR2; have HRR2 := Lib.hid hRR2; have HX2 := Lib.hid hx2; have HB2 := Lib.hid hB2; clear hO2 hR2 hRR2 hx2 hB2 hat2 hA2
          have hfd0 : ∀ w : World, (Instr.field 64 (.agg #[.int .i64 (F2 : Int), .int .i64 (D2 : Int)]) 0).run Tryd.prog w = .ok (.int .i64 (F2 : Int)) w := fun _ => by kernel_rfl
          have hfd1 : ∀ w : World, (Instr.field 64 (.agg #[.int .i64 (F2 : Int), .int .i64 (D2 : Int)]) 1).run Tryd.prog w = .ok (.int .i64 (D2 : Int)) w := fun _ => by kernel_rfl
          have ef : ((F2 : Int) != (F2 : Int)) = false := by simp
          have ed : ((D2 : Int) != (D2 : Int)) = false := by simp
          have en : ((n2 : Int) != (n2 : Int)) = false := by simp
          go_wp2_with fail
          refine wp_region_shf (fun _ => True) (fun W => W = w2 ∧ True) 35 (.firm 0 (.firm 1 (.firm 2 (.one 3 (.turn (.sch (.one 4 (.firm 5 (.firm 6 (.firm 7 (.firm 9 (.firm 10 (.firm 11 (.firm 12 (.firm 13 (.one 8 (.firm 14 (.firm 15 (.firm 16 (.firm 17 (.firm 20 (.firm 21 (.firm 22 (.firm 23 (.one 18 (.firm 19 (.firm 24 (.firm 25 (.firm 26 (.firm 27 (.firm 30 (.firm 31 (.firm 32 (.firm 33 (.one 28 (.firm 29 (.firm 34 (.one 35 .nil)))))))))))))))))))))))))))))))))))))) (by kernel_rfl) (by kernel_rfl) ⟨rfl, True.intro⟩ ?_
          rintro w0 ⟨rfl, _⟩
          try simp only [Act.put, List.setIfInBounds_toArray, List.set_cons_zero, List.set_cons_succ]
          apply shf_firm rfl rfl trivial
          · intro wq _
            go_simp
            first | rfl | (trace_state; fail)
          try simp only [Act.put, List.setIfInBounds_toArray, List.set_cons_zero, List.set_cons_succ]
          apply shf_firm rfl rfl trivial
          · intro wq _
            go_simp
            first | rfl | (trace_state; fail)
          try simp only [Act.put, List.setIfInBounds_toArray, List.set_cons_zero, List.set_cons_succ]
          apply shf_firm rfl rfl trivial
          · intro wq _
            go_simp
            first | rfl | (trace_state; fail)
          try simp only [Act.put, List.setIfInBounds_toArray, List.set_cons_zero, List.set_cons_succ]
          refine shf_one rfl rfl (fun K hK => ?_)
          go_simp
          have hsi2 : SlAt w0 Ai (u8v L) := HCI.out.of HX2.out
          refine (RFD2.out _ (HRR2.out.of ((Within.refl _).drew)) (hsi2.of ((Within.refl _).drew))).mono ?_; rintro e3 w3 ⟨v3, rfl, hO3, hR3, hB3⟩
          have hB3' : But bo w0 w3 := (But.in_ ((Within.refl w0).drew)).trans hB3
          have hP3 := HR2.out.but hB3' (Ne.symm HNE.out) hbow1
          have hO23 := HO2.out.but hB3' hbow1
          obtain ⟨A2', c2', hv2, _, hat2, _⟩ := hO23.at
          injection hv2 with e1 _ e2
          subst e1
          subst e2
          obtain ⟨A3, c3, rfl, _, hat3, _⟩ := hO3.at
          have hx3 : Within w w3 := HX2.out.aside hB3' HBOW.out
          have HP3 := Lib.hid hP3; have HR3 := Lib.hid hR3; have HX3 := Lib.hid hx3
          obtain ⟨Ar, cr, ⟨r0, r1, r2, rff⟩, _⟩ := hR3
          rw [← HN2.out] at r0
          have hbl3 := HR3.out.lt
          clear hO3 hO23 hP3 hx3 hB3
          refine hK _ _ trivial ?_
          clear hK K
          try simp only [Act.put, List.setIfInBounds_toArray, List.set_cons_zero, List.set_cons_succ]
          refine shf_turn (Within w3) (fun _ _ => trivial) ?_
          refine shf_sch ?_
          refine sch_one rfl rfl (fun K hK => ?_)
          go_simp
          refine (Rsameall_any A2 A3 c2 c3 rs (by have := HCN.out; omega) (fun r hr => (HOK.out r hr).len) _ hat2 hat3).mono ?_; rintro e4 w4 ⟨rfl, h4⟩
          refine hK _ _ (fun _ => (by repeat (first | with_reducible exact Within.refl _ | with_reducible assumption | with_reducible refine Within.alloc ?_ _ | with_reducible refine Within.drew ?_ | with_reducible refine Within.drewN ?_ _ | with_reducible refine Within.setCell ?_ (by first | (simp; done) | (simp; omega)) _ | with_reducible refine Within.trans ?_ (by assumption)))) ?_
          clear hK K
          try simp only [Act.put, List.setIfInBounds_toArray, List.set_cons_zero, List.set_cons_succ]
          apply sch_firm rfl rfl (by repeat (first | with_reducible exact Within.refl _ | with_reducible assumption | with_reducible refine Within.alloc ?_ _ | with_reducible refine Within.drew ?_ | with_reducible refine Within.drewN ?_ _ | with_reducible refine Within.setCell ?_ (by first | (simp; done) | (simp; omega)) _ | with_reducible refine Within.trans ?_ (by assumption)))
          · intro wq hq
            have hcq := hq.cells
            clear hq
            go_simp
            first | rfl | (trace_state; fail)
          try simp only [Act.put, List.setIfInBounds_toArray, List.set_cons_zero, List.set_cons_succ]
          apply sch_firm rfl rfl (by repeat (first | with_reducible exact Within.refl _ | with_reducible assumption | with_reducible refine Within.alloc ?_ _ | with_reducible refine Within.drew ?_ | with_reducible refine Within.drewN ?_ _ | with_reducible refine Within.setCell ?_ (by first | (simp; done) | (simp; omega)) _ | with_reducible refine Within.trans ?_ (by assumption)))
          · intro wq hq
            have hcq := hq.cells
            clear hq
            go_simp
            first | rfl | (trace_state; fail)
          try simp only [Act.put, List.setIfInBounds_toArray, List.set_cons_zero, List.set_cons_succ]
          apply sch_want rfl (by first | rfl | decide | (simp [Region.wanted, yielded]; done)) (by repeat (first | with_reducible exact Within.refl _ | with_reducible assumption | with_reducible refine Within.alloc ?_ _ | with_reducible refine Within.drew ?_ | with_reducible refine Within.drewN ?_ _ | with_reducible refine Within.setCell ?_ (by first | (simp; done) | (simp; omega)) _ | with_reducible refine Within.trans ?_ (by assumption)))
          · intro wq hq
            have hcq := hq.cells
            clear hq
            go_simp
            first | rfl | (trace_state; fail)
          try simp only [Act.put, List.setIfInBounds_toArray, List.set_cons_zero, List.set_cons_succ]
          apply sch_want rfl (by first | rfl | decide | (simp [Region.wanted, yielded]; done)) (by repeat (first | with_reducible exact Within.refl _ | with_reducible assumption | with_reducible refine Within.alloc ?_ _ | with_reducible refine Within.drew ?_ | with_reducible refine Within.drewN ?_ _ | with_reducible refine Within.setCell ?_ (by first | (simp; done) | (simp; omega)) _ | with_reducible refine Within.trans ?_ (by assumption)))
          · intro wq hq
            have hcq := hq.cells
            clear hq
            go_simp
            first | rfl | (trace_state; fail)
          try simp only [Act.put, List.setIfInBounds_toArray, List.set_cons_zero, List.set_cons_succ]
          apply sch_want rfl (by first | rfl | decide | (simp [Region.wanted, yielded]; done)) (by repeat (first | with_reducible exact Within.refl _ | with_reducible assumption | with_reducible refine Within.alloc ?_ _ | with_reducible refine Within.drew ?_ | with_reducible refine Within.drewN ?_ _ | with_reducible refine Within.setCell ?_ (by first | (simp; done) | (simp; omega)) _ | with_reducible refine Within.trans ?_ (by assumption)))
          · intro wq hq
            have hcq := hq.cells
            clear hq
            go_simp
            first | rfl | (trace_state; fail)
          try simp only [Act.put, List.setIfInBounds_toArray, List.set_cons_zero, List.set_cons_succ]
          apply sch_want rfl (by first | rfl | decide | (simp [Region.wanted, yielded]; done)) (by repeat (first | with_reducible exact Within.refl _ | with_reducible assumption | with_reducible refine Within.alloc ?_ _ | with_reducible refine Within.drew ?_ | with_reducible refine Within.drewN ?_ _ | with_reducible refine Within.setCell ?_ (by first | (simp; done) | (simp; omega)) _ | with_reducible refine Within.trans ?_ (by assumption)))
          · intro wq hq
            have hcq := hq.cells
            clear hq
            go_simp
            first | rfl | (trace_state; fail)
          try simp only [Act.put, List.setIfInBounds_toArray, List.set_cons_zero, List.set_cons_succ]
          apply sch_want rfl (by first | rfl | decide | (simp [Region.wanted, yielded]; done)) (by repeat (first | with_reducible exact Within.refl _ | with_reducible assumption | with_reducible refine Within.alloc ?_ _ | with_reducible refine Within.drew ?_ | with_reducible refine Within.drewN ?_ _ | with_reducible refine Within.setCell ?_ (by first | (simp; done) | (simp; omega)) _ | with_reducible refine Within.trans ?_ (by assumption)))
          · intro wq hq
            have hcq := hq.cells
            clear hq
            go_simp
            first | rfl | (trace_state; fail)
          try simp only [Act.put, List.setIfInBounds_toArray, List.set_cons_zero, List.set_cons_succ]
          apply sch_want rfl (by first | rfl | decide | (simp [Region.wanted, yielded]; done)) (by repeat (first | with_reducible exact Within.refl _ | with_reducible assumption | with_reducible refine Within.alloc ?_ _ | with_reducible refine Within.drew ?_ | with_reducible refine Within.drewN ?_ _ | with_reducible refine Within.setCell ?_ (by first | (simp; done) | (simp; omega)) _ | with_reducible refine Within.trans ?_ (by assumption)))
          · intro wq hq
            have hcq := hq.cells
            clear hq
            go_simp
            first | rfl | (trace_state; fail)
          try simp only [Act.put, List.setIfInBounds_toArray, List.set_cons_zero, List.set_cons_succ]
          refine sch_one_want rfl (by first | rfl | decide | (simp [Region.wanted, yielded]; done)) (fun K hK => ?_)
          go_simp
          refine (Waiting_any bx _ K2 F2 D2 _ (HP3.out.of (by repeat (first | with_reducible exact Within.refl _ | with_reducible assumption | with_reducible refine Within.alloc ?_ _ | with_reducible refine Within.drew ?_ | with_reducible refine Within.drewN ?_ _ | with_reducible refine Within.setCell ?_ (by first | (simp; done) | (simp; omega)) _ | with_reducible refine Within.trans ?_ (by assumption))))).mono ?_; rintro e5 w5 ⟨rfl, rfl⟩
          rw [← HN2.out]
          refine hK _ _ (fun _ => (by repeat (first | with_reducible exact Within.refl _ | with_reducible assumption | with_reducible refine Within.alloc ?_ _ | with_reducible refine Within.drew ?_ | with_reducible refine Within.drewN ?_ _ | with_reducible refine Within.setCell ?_ (by first | (simp; done) | (simp; omega)) _ | with_reducible refine Within.trans ?_ (by assumption)))) ?_
          clear hK K
          try simp only [Act.put, List.setIfInBounds_toArray, List.set_cons_zero, List.set_cons_succ]
          apply sch_want rfl (by first | rfl | decide | (simp [Region.wanted, yielded]; done)) (by repeat (first | with_reducible exact Within.refl _ | with_reducible assumption | with_reducible refine Within.alloc ?_ _ | with_reducible refine Within.drew ?_ | with_reducible refine Within.drewN ?_ _ | with_reducible refine Within.setCell ?_ (by first | (simp; done) | (simp; omega)) _ | with_reducible refine Within.trans ?_ (by assumption)))
          · intro wq hq
            have hcq := hq.cells
            clear hq
            go_simp
            first | rfl | (trace_state; fail)
          try simp only [Act.put, List.setIfInBounds_toArray, List.set_cons_zero, List.set_cons_succ]
          apply sch_firm rfl rfl (by repeat (first | with_reducible exact Within.refl _ | with_reducible assumption | with_reducible refine Within.alloc ?_ _ | with_reducible refine Within.drew ?_ | with_reducible refine Within.drewN ?_ _ | with_reducible refine Within.setCell ?_ (by first | (simp; done) | (simp; omega)) _ | with_reducible refine Within.trans ?_ (by assumption)))
          · intro wq hq
            have hcq := hq.cells
            clear hq
            go_simp
            first | rfl | (trace_state; fail)
          try simp only [Act.put, List.setIfInBounds_toArray, List.set_cons_zero, List.set_cons_succ]
          apply sch_firm rfl rfl (by repeat (first | with_reducible exact Within.refl _ | with_reducible assumption | with_reducible refine Within.alloc ?_ _ | with_reducible refine Within.drew ?_ | with_reducible refine Within.drewN ?_ _ | with_reducible refine Within.setCell ?_ (by first | (simp; done) | (simp; omega)) _ | with_reducible refine Within.trans ?_ (by assumption)))
          · intro wq hq
            have hcq := hq.cells
            clear hq
            go_simp
            first | rfl | (trace_state; fail)
          try simp only [Act.put, List.setIfInBounds_toArray, List.set_cons_zero, List.set_cons_succ]
          apply sch_want rfl (by first | rfl | decide | (simp [Region.wanted, yielded]; done)) (by repeat (first | with_reducible exact Within.refl _ | with_reducible assumption | with_reducible refine Within.alloc ?_ _ | with_reducible refine Within.drew ?_ | with_reducible refine Within.drewN ?_ _ | with_reducible refine Within.setCell ?_ (by first | (simp; done) | (simp; omega)) _ | with_reducible refine Within.trans ?_ (by assumption)))
          · intro wq hq
            have hcq := hq.cells
            clear hq
            go_simp
            first | rfl | (trace_state; fail)
          try simp only [Act.put, List.setIfInBounds_toArray, List.set_cons_zero, List.set_cons_succ]
          apply sch_want rfl (by first | rfl | decide | (simp [Region.wanted, yielded]; done)) (by repeat (first | with_reducible exact Within.refl _ | with_reducible assumption | with_reducible refine Within.alloc ?_ _ | with_reducible refine Within.drew ?_ | with_reducible refine Within.drewN ?_ _ | with_reducible refine Within.setCell ?_ (by first | (simp; done) | (simp; omega)) _ | with_reducible refine Within.trans ?_ (by assumption)))
          · intro wq hq
            have hcq := hq.cells
            clear hq
            go_simp
            first | rfl | (trace_state; fail)
          try simp only [Act.put, List.setIfInBounds_toArray, List.set_cons_zero, List.set_cons_succ]
          apply sch_want rfl (by first | rfl | decide | (simp [Region.wanted, yielded]; done)) (by repeat (first | with_reducible exact Within.refl _ | with_reducible assumption | with_reducible refine Within.alloc ?_ _ | with_reducible refine Within.drew ?_ | with_reducible refine Within.drewN ?_ _ | with_reducible refine Within.setCell ?_ (by first | (simp; done) | (simp; omega)) _ | with_reducible refine Within.trans ?_ (by assumption)))
          · intro wq hq
            have hcq := hq.cells
            clear hq
            go_simp
            first | rfl | (trace_state; fail)
          try simp only [Act.put, List.setIfInBounds_toArray, List.set_cons_zero, List.set_cons_succ]
          apply sch_want rfl (by first | rfl | decide | (simp [Region.wanted, yielded]; done)) (by repeat (first | with_reducible exact Within.refl _ | with_reducible assumption | with_reducible refine Within.alloc ?_ _ | with_reducible refine Within.drew ?_ | with_reducible refine Within.drewN ?_ _ | with_reducible refine Within.setCell ?_ (by first | (simp; done) | (simp; omega)) _ | with_reducible refine Within.trans ?_ (by assumption)))
          · intro wq hq
            have hcq := hq.cells
            clear hq
            go_simp
            first | rfl | (trace_state; fail)
          try simp only [Act.put, List.setIfInBounds_toArray, List.set_cons_zero, List.set_cons_succ]
          apply sch_want rfl (by first | rfl | decide | (simp [Region.wanted, yielded]; done)) (by repeat (first | with_reducible exact Within.refl _ | with_reducible assumption | with_reducible refine Within.alloc ?_ _ | with_reducible refine Within.drew ?_ | with_reducible refine Within.drewN ?_ _ | with_reducible refine Within.setCell ?_ (by first | (simp; done) | (simp; omega)) _ | with_reducible refine Within.trans ?_ (by assumption)))
          · intro wq hq
            have hcq := hq.cells
            clear hq
            go_simp
            first | rfl | (trace_state; fail)
          try simp only [Act.put, List.setIfInBounds_toArray, List.set_cons_zero, List.set_cons_succ]
          refine sch_one_want rfl (by first | rfl | decide | (simp [Region.wanted, yielded]; done)) (fun K hK => ?_)
          go_simp
          refine (Noted_any bx _ K2 F2 D2 _ (HP3.out.of (by repeat (first | with_reducible exact Within.refl _ | with_reducible assumption | with_reducible refine Within.alloc ?_ _ | with_reducible refine Within.drew ?_ | with_reducible refine Within.drewN ?_ _ | with_reducible refine Within.setCell ?_ (by first | (simp; done) | (simp; omega)) _ | with_reducible refine Within.trans ?_ (by assumption))))).mono ?_; rintro e6 w6 ⟨rfl, h6⟩
          refine hK _ _ (fun _ => (by repeat (first | with_reducible exact Within.refl _ | with_reducible assumption | with_reducible refine Within.alloc ?_ _ | with_reducible refine Within.drew ?_ | with_reducible refine Within.drewN ?_ _ | with_reducible refine Within.setCell ?_ (by first | (simp; done) | (simp; omega)) _ | with_reducible refine Within.trans ?_ (by assumption)))) ?_
          clear hK K
          try simp only [Act.put, List.setIfInBounds_toArray, List.set_cons_zero, List.set_cons_succ]
          apply sch_want rfl (by first | rfl | decide | (simp [Region.wanted, yielded]; done)) (by repeat (first | with_reducible exact Within.refl _ | with_reducible assumption | with_reducible refine Within.alloc ?_ _ | with_reducible refine Within.drew ?_ | with_reducible refine Within.drewN ?_ _ | with_reducible refine Within.setCell ?_ (by first | (simp; done) | (simp; omega)) _ | with_reducible refine Within.trans ?_ (by assumption)))
          · intro wq hq
            have hcq := hq.cells
            clear hq
            go_simp
            first | rfl | (trace_state; fail)
          try simp only [Act.put, List.setIfInBounds_toArray, List.set_cons_zero, List.set_cons_succ]
          apply sch_want rfl (by first | rfl | decide | (simp [Region.wanted, yielded]; done)) (by repeat (first | with_reducible exact Within.refl _ | with_reducible assumption | with_reducible refine Within.alloc ?_ _ | with_reducible refine Within.drew ?_ | with_reducible refine Within.drewN ?_ _ | with_reducible refine Within.setCell ?_ (by first | (simp; done) | (simp; omega)) _ | with_reducible refine Within.trans ?_ (by assumption)))
          · intro wq hq
            have hcq := hq.cells
            clear hq
            go_simp
            first | rfl | (trace_state; fail)
          try simp only [Act.put, List.setIfInBounds_toArray, List.set_cons_zero, List.set_cons_succ]
          apply sch_firm rfl rfl (by repeat (first | with_reducible exact Within.refl _ | with_reducible assumption | with_reducible refine Within.alloc ?_ _ | with_reducible refine Within.drew ?_ | with_reducible refine Within.drewN ?_ _ | with_reducible refine Within.setCell ?_ (by first | (simp; done) | (simp; omega)) _ | with_reducible refine Within.trans ?_ (by assumption)))
          · intro wq hq
            have hcq := hq.cells
            clear hq
            go_simp
            first | rfl | (trace_state; fail)
          try simp only [Act.put, List.setIfInBounds_toArray, List.set_cons_zero, List.set_cons_succ]
          apply sch_firm rfl rfl (by repeat (first | with_reducible exact Within.refl _ | with_reducible assumption | with_reducible refine Within.alloc ?_ _ | with_reducible refine Within.drew ?_ | with_reducible refine Within.drewN ?_ _ | with_reducible refine Within.setCell ?_ (by first | (simp; done) | (simp; omega)) _ | with_reducible refine Within.trans ?_ (by assumption)))
          · intro wq hq
            have hcq := hq.cells
            clear hq
            go_simp
            first | rfl | (trace_state; fail)
          try simp only [Act.put, List.setIfInBounds_toArray, List.set_cons_zero, List.set_cons_succ]
          apply sch_want rfl (by first | rfl | decide | (simp [Region.wanted, yielded]; done)) (by repeat (first | with_reducible exact Within.refl _ | with_reducible assumption | with_reducible refine Within.alloc ?_ _ | with_reducible refine Within.drew ?_ | with_reducible refine Within.drewN ?_ _ | with_reducible refine Within.setCell ?_ (by first | (simp; done) | (simp; omega)) _ | with_reducible refine Within.trans ?_ (by assumption)))
          · intro wq hq
            have hcq := hq.cells
            clear hq
            go_simp
            first | rfl | (trace_state; fail)
          try simp only [Act.put, List.setIfInBounds_toArray, List.set_cons_zero, List.set_cons_succ]
          apply sch_want rfl (by first | rfl | decide | (simp [Region.wanted, yielded]; done)) (by repeat (first | with_reducible exact Within.refl _ | with_reducible assumption | with_reducible refine Within.alloc ?_ _ | with_reducible refine Within.drew ?_ | with_reducible refine Within.drewN ?_ _ | with_reducible refine Within.setCell ?_ (by first | (simp; done) | (simp; omega)) _ | with_reducible refine Within.trans ?_ (by assumption)))
          · intro wq hq
            have hcq := hq.cells
            clear hq
            go_simp
            first | rfl | (trace_state; fail)
          try simp only [Act.put, List.setIfInBounds_toArray, List.set_cons_zero, List.set_cons_succ]
          apply sch_want rfl (by first | rfl | decide | (simp [Region.wanted, yielded]; done)) (by repeat (first | with_reducible exact Within.refl _ | with_reducible assumption | with_reducible refine Within.alloc ?_ _ | with_reducible refine Within.drew ?_ | with_reducible refine Within.drewN ?_ _ | with_reducible refine Within.setCell ?_ (by first | (simp; done) | (simp; omega)) _ | with_reducible refine Within.trans ?_ (by assumption)))
          · intro wq hq
            have hcq := hq.cells
            clear hq
            go_simp
            first | rfl | (trace_state; fail)
          try simp only [Act.put, List.setIfInBounds_toArray, List.set_cons_zero, List.set_cons_succ]
          apply sch_want rfl (by first | rfl | decide | (simp [Region.wanted, yielded]; done)) (by repeat (first | with_reducible exact Within.refl _ | with_reducible assumption | with_reducible refine Within.alloc ?_ _ | with_reducible refine Within.drew ?_ | with_reducible refine Within.drewN ?_ _ | with_reducible refine Within.setCell ?_ (by first | (simp; done) | (simp; omega)) _ | with_reducible refine Within.trans ?_ (by assumption)))
          · intro wq hq
            have hcq := hq.cells
            clear hq
            go_simp
            first | rfl | (trace_state; fail)
          try simp only [Act.put, List.setIfInBounds_toArray, List.set_cons_zero, List.set_cons_succ]
          apply sch_want rfl (by first | rfl | decide | (simp [Region.wanted, yielded]; done)) (by repeat (first | with_reducible exact Within.refl _ | with_reducible assumption | with_reducible refine Within.alloc ?_ _ | with_reducible refine Within.drew ?_ | with_reducible refine Within.drewN ?_ _ | with_reducible refine Within.setCell ?_ (by first | (simp; done) | (simp; omega)) _ | with_reducible refine Within.trans ?_ (by assumption)))
          · intro wq hq
            have hcq := hq.cells
            clear hq
            go_simp
            first | rfl | (trace_state; fail)
          try simp only [Act.put, List.setIfInBounds_toArray, List.set_cons_zero, List.set_cons_succ]
          refine sch_one_want rfl (by first | rfl | decide | (simp [Region.wanted, yielded]; done)) (fun K hK => ?_)
          go_simp
          refine (Noted_any bx _ K2 F2 D2 _ (HP3.out.of (by repeat (first | with_reducible exact Within.refl _ | with_reducible assumption | with_reducible refine Within.alloc ?_ _ | with_reducible refine Within.drew ?_ | with_reducible refine Within.drewN ?_ _ | with_reducible refine Within.setCell ?_ (by first | (simp; done) | (simp; omega)) _ | with_reducible refine Within.trans ?_ (by assumption))))).mono ?_; rintro e7 w7 ⟨rfl, h7⟩
          refine hK _ _ (fun _ => (by repeat (first | with_reducible exact Within.refl _ | with_reducible assumption | with_reducible refine Within.alloc ?_ _ | with_reducible refine Within.drew ?_ | with_reducible refine Within.drewN ?_ _ | with_reducible refine Within.setCell ?_ (by first | (simp; done) | (simp; omega)) _ | with_reducible refine Within.trans ?_ (by assumption)))) ?_
          clear hK K
          try simp only [Act.put, List.setIfInBounds_toArray, List.set_cons_zero, List.set_cons_succ]
          apply sch_want rfl (by first | rfl | decide | (simp [Region.wanted, yielded]; done)) (by repeat (first | with_reducible exact Within.refl _ | with_reducible assumption | with_reducible refine Within.alloc ?_ _ | with_reducible refine Within.drew ?_ | with_reducible refine Within.drewN ?_ _ | with_reducible refine Within.setCell ?_ (by first | (simp; done) | (simp; omega)) _ | with_reducible refine Within.trans ?_ (by assumption)))
          · intro wq hq
            have hcq := hq.cells
            clear hq
            go_simp
            first | rfl | (trace_state; fail)
          try simp only [Act.put, List.setIfInBounds_toArray, List.set_cons_zero, List.set_cons_succ]
          apply sch_want rfl (by first | rfl | decide | (simp [Region.wanted, yielded]; done)) (by repeat (first | with_reducible exact Within.refl _ | with_reducible assumption | with_reducible refine Within.alloc ?_ _ | with_reducible refine Within.drew ?_ | with_reducible refine Within.drewN ?_ _ | with_reducible refine Within.setCell ?_ (by first | (simp; done) | (simp; omega)) _ | with_reducible refine Within.trans ?_ (by assumption)))
          · intro wq hq
            have hcq := hq.cells
            clear hq
            go_simp
            first | rfl | (trace_state; fail)
          try simp only [Act.put, List.setIfInBounds_toArray, List.set_cons_zero, List.set_cons_succ]
          refine sch_one rfl rfl (fun K hK => ?_)
          go_simp
          refine hK _ _ (fun h => absurd h (by decide)) ?_
          clear hK K
          try simp only [Act.put, List.setIfInBounds_toArray, List.set_cons_zero, List.set_cons_succ]
          refine sch_nil ?_
          have hw7 : Within w3 w7 := (by repeat (first | with_reducible exact Within.refl _ | with_reducible assumption | with_reducible refine Within.alloc ?_ _ | with_reducible refine Within.drew ?_ | with_reducible refine Within.drewN ?_ _ | with_reducible refine Within.setCell ?_ (by first | (simp; done) | (simp; omega)) _ | with_reducible refine Within.trans ?_ (by assumption)))
          clear h4 h6 h7
          go_wp2
          go_roundw
          case rel => exact ⟨i + 1, hlt, by go_num, HX3.out.trans hw7, K2, F2, D2, _, _, HKB2.out, HK64.out, by have := HFD.out; have := HCN.out; have := HKL.out; omega, by have := HDD.out; have := HCN.out; have := HKL.out; omega, HP3.out.of hw7, HR3.out.of hw7, HBXW1.out, hbow1, Nat.lt_of_lt_of_le HR2.out.lt (Nat.le_refl _), Nat.lt_of_lt_of_le HRR2.out.lt (Nat.le_refl _)⟩
          case measure => simp [intOf]; omega
    · obtain rfl : i = ls.length := by omega
      clear hRP hRR hKb
      have EQN : ∀ w : World, (Op.equalIn 10000 64 (.agg #[.int .i64 0, .int .i64 0]) (.agg #[.int .i64 0, .int .i64 0])).run Tryd.prog w = .ok true w := fun _ => by kernel_rfl
      go_wp2_with fail
      refine (Reset_nil _).mono ?_; rintro e3 w3 ⟨rfl, rfl⟩
      go_wp2_with fail
      refine (Feed_nil _ _ _ _).mono ?_; rintro e4 w4 ⟨rfl, rfl⟩
      go_wp2_with fail
      refine (Noted_nil _).mono ?_; rintro e5 w5 ⟨rfl, h5⟩
      go_wp2_with fail
      refine (Waiting_nil _).mono ?_; rintro e6 w6 ⟨rfl, rfl⟩
      go_wp2_with fail
      refine (awake_true _ (by exact HT.out.of (by repeat (first | with_reducible exact Within.refl _ | with_reducible assumption | with_reducible refine Within.alloc ?_ _ | with_reducible refine Within.drew ?_ | with_reducible refine Within.drewN ?_ _ | with_reducible refine Within.setCell ?_ (by first | (simp; done) | (simp; omega)) _ | with_reducible refine Within.trans ?_ (by assumption))))).mono ?_; rintro e7 w7 ⟨rfl, h7⟩
      go_wp2
      go_ret
      exact ⟨rfl, (by repeat (first | with_reducible exact Within.refl _ | with_reducible assumption | with_reducible refine Within.alloc ?_ _ | with_reducible refine Within.drew ?_ | with_reducible refine Within.drewN ?_ _ | with_reducible refine Within.setCell ?_ (by first | (simp; done) | (simp; omega)) _ | with_reducible refine Within.trans ?_ (by assumption)))⟩

theorem reads_walk (A : Option Addr) (c : Nat) (ls : List (List Nat)) (hl : ls.length ≤ 140737488355328) (reset : Int) (w : World) (hT : FmS w) (hr : ChAt w A ls) : Calls Tryd.prog 10 #[.slice A ls.length c, .int .i64 reset] w fun e w' => e = .returned (.bool true) ∧ Within w w' := by
  by_cases h : 2000 < ls.length
  · exact reads_many A c ls reset h w hT
  · exact reads_ok A c ls hl reset (by omega) w hT hr

end Go.Proofs.YtmpcnhiklpahnaaDoor
