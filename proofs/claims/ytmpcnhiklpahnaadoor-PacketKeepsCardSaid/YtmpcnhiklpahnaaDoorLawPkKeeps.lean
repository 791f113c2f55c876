/- PacketKeeps: walk. -/
import Derived.Test.YtmpcnhiklpahnaaDoorPk19
import Derived.Test.YtmpcnhiklpahnaaDoorMem4
namespace Go.Proofs.YtmpcnhiklpahnaaDoor
open Go.RowKit

theorem feed_begun' {r : Rd} (h : r.Ok pf) {k : Nat} (hk : k < (packV pf r).length) : feedV pf ([] ++ (packV pf r).take k) = ([], 0, (packV pf r).take k) := feed_begun h hk
theorem feed_whole {r : Rd} (h : r.Ok pf) (k : Nat) : feedV pf ((packV pf r).take k ++ (packV pf r).drop k) = ([r], 0, []) := by rw [List.take_append_drop]; exact feed_pack pf_ok h

set_option maxRecDepth 100000 in
set_option maxHeartbeats 1000000 in
theorem keeps_bad (s : Int) (q t : Nat) (A : Option Addr) (c : Nat) (l : List Nat) (hq : q < 4294967296) (ht : t < 4294967296) (hw : Words64 l) (hl : l.length * 8 ≤ 140737488355328) (hbad : checkV pf s l ≠ 0) (cut : Int) (w : World) (hT : FmS w) (hr : SlAt w A (u64v l)) : Calls Tryd.prog 7 #[.agg #[.int .i64 s, .int .u32 (q : Int), .int .u32 (t : Int), .slice A l.length c], .int .i64 cut] w fun e w' => e = .returned (.bool true) ∧ Within w w' := by
  have OF := Lib.hid (fun W h => Of_any s q t A c l hw (by omega) W h)
  have HR := Lib.hid hr; clear hr
  have PK := Lib.hid (fun (W : World) A c (hT : FmS W) (h : SlAt W A (f64v l)) => Pack_any s q t A c l hq ht hw (by omega) W hT h)
  obtain ⟨pl, hpl⟩ : ∃ x, x = packL s q t l := ⟨_, rfl⟩
  rw [← hpl] at PK
  obtain ⟨ck, hck⟩ : ∃ x, x = checkV pf s l := ⟨_, rfl⟩
  rw [← hck] at PK hbad
  have hne : (ck != 0) = true := bne_iff_ne.2 hbad
  have HT := Lib.hid hT
  clear hpl hck hT hw hl hq ht hbad
  go_enter Tryd.func7, Tryd.ntmps7
  go_wp2_with fail
  refine (OF.out _ (by exact HR.out.of (by repeat (first | with_reducible exact Within.refl _ | with_reducible assumption | with_reducible refine Within.alloc ?_ _ | with_reducible refine Within.drew ?_ | with_reducible refine Within.drewN ?_ _ | with_reducible refine Within.setCell ?_ (by first | (simp; done) | (simp; omega)) _ | with_reducible refine Within.trans ?_ (by assumption))))).mono ?_; rintro e1 w1 ⟨v1, rfl, hO1, h1⟩
  obtain ⟨A1, c1, rfl, _, hs1, _⟩ := hO1.form
  have hW1 : Within w w1 := Within.trans ((Within.refl w).alloc _) h1
  have HS1 := Lib.hid hs1; clear hs1 hO1
  go_wp2_with fail
  refine (PK.out _ A1 c1 (by exact HT.out.of (by repeat (first | with_reducible exact Within.refl _ | with_reducible assumption | with_reducible refine Within.alloc ?_ _ | with_reducible refine Within.drew ?_ | with_reducible refine Within.drewN ?_ _ | with_reducible refine Within.setCell ?_ (by first | (simp; done) | (simp; omega)) _ | with_reducible refine Within.trans ?_ (by assumption)))) (by exact HS1.out.of (by repeat (first | with_reducible exact Within.refl _ | with_reducible assumption | with_reducible refine Within.alloc ?_ _ | with_reducible refine Within.drew ?_ | with_reducible refine Within.drewN ?_ _ | with_reducible refine Within.setCell ?_ (by first | (simp; done) | (simp; omega)) _ | with_reducible refine Within.trans ?_ (by assumption))))).mono ?_; rintro e2 w2 ⟨v2, rfl, hO2, h2⟩
  obtain ⟨A2, c2, rfl, _, hs2, _⟩ := hO2.form
  clear hs2 hO2
  have hW2 : Within w w2 := Within.trans (hW1.alloc _) h2
  go_wp2_with fail
  refine (awake_true _ (by exact HT.out.of (by repeat (first | with_reducible exact Within.refl _ | with_reducible assumption | with_reducible refine Within.alloc ?_ _ | with_reducible refine Within.drew ?_ | with_reducible refine Within.drewN ?_ _ | with_reducible refine Within.setCell ?_ (by first | (simp; done) | (simp; omega)) _ | with_reducible refine Within.trans ?_ (by assumption))))).mono ?_; rintro e4 w4 ⟨rfl, h4⟩
  go_wp2
  go_ret
  exact ⟨rfl, (by repeat (first | with_reducible exact Within.refl _ | with_reducible assumption | with_reducible refine Within.alloc ?_ _ | with_reducible refine Within.drew ?_ | with_reducible refine Within.drewN ?_ _ | with_reducible refine Within.setCell ?_ (by first | (simp; done) | (simp; omega)) _ | with_reducible refine Within.trans ?_ (by assumption)))⟩

set_option maxRecDepth 100000 in
set_option maxHeartbeats 1000000 in
theorem keeps_ok (n q t : Nat) (A : Option Addr) (c : Nat) (l : List Nat) (hw : Words64 l) (hl : l.length * 8 ≤ 140737488355328) (hok : Rd.Ok pf ⟨n, q, t, l⟩) (cut : Int) (w : World) (hT : FmS w) (hr : SlAt w A (u64v l)) : Calls Tryd.prog 7 #[.agg #[.int .i64 (n : Int), .int .u32 (q : Int), .int .u32 (t : Int), .slice A l.length c], .int .i64 cut] w fun e w' => e = .returned (.bool true) ∧ Within w w' := by
  have OF := Lib.hid (fun W h => Of_any (n : Int) q t A c l hw (by omega) W h)
  have HR := Lib.hid hr; clear hr
  have PK := Lib.hid (fun (W : World) A c (hT : FmS W) (h : SlAt W A (f64v l)) => Pack_fit n q t A c l hok W hT h)
  have SM := Lib.hid (fun (W : World) A B c d (h1 : SlAt W A (f64v l)) (h2 : SlAt W B (f64v l)) => Rsame_self (n : Int) (q : Int) (t : Int) A B c d l (by omega) W h1 h2)
  obtain ⟨hl16, hl64⟩ := frame_len hok
  have HBY := Lib.hid (packV_bytes hok)
  have FW := Lib.hid (fun k => feed_whole hok k)
  have FB := Lib.hid (fun k hk => feed_begun' hok (k := k) hk)
  obtain ⟨pl, hpl⟩ : ∃ x, x = packV pf ⟨n, q, t, l⟩ := ⟨_, rfl⟩
  rw [← hpl] at PK hl16 hl64 HBY FW FB
  obtain ⟨rd, hrd⟩ : ∃ x : Rd, x = ⟨n, q, t, l⟩ := ⟨_, rfl⟩
  rw [← hrd] at FW
  obtain ⟨k, hk, hke, hlo, hhi⟩ := round_at cut pl.length (by omega) (by omega)
  have HPL := Lib.hid hpl; have HRD := Lib.hid hrd
  have HT := Lib.hid hT
  clear hpl hrd hT hw hl hok
  obtain ⟨N, hN⟩ : ∃ N, pl.length = N := ⟨_, rfl⟩
  rw [hN] at hl16 hl64 hk hke hlo hhi FB
  have wd : IntKind.i64.wrap (Int.tmod cut (N : Int) + (N : Int)) = Int.tmod cut (N : Int) + (N : Int) := by rw [IntKind.wrap_i64]; omega
  have HNN := Lib.hid hN; clear hN
  have n0 : ¬ N = 0 := by omega
  have n0i : ¬ (N : Int) = 0 := by omega
  go_enter Tryd.func7, Tryd.ntmps7
  go_wp2_with fail
  refine (OF.out _ (by exact HR.out.of (by repeat (first | with_reducible exact Within.refl _ | with_reducible assumption | with_reducible refine Within.alloc ?_ _ | with_reducible refine Within.drew ?_ | with_reducible refine Within.drewN ?_ _ | with_reducible refine Within.setCell ?_ (by first | (simp; done) | (simp; omega)) _ | with_reducible refine Within.trans ?_ (by assumption))))).mono ?_; rintro e1 w1 ⟨v1, rfl, hO1, h1⟩
  obtain ⟨A1, c1, rfl, _, hs1, _⟩ := hO1.form
  have hW1 : Within w w1 := Within.trans ((Within.refl w).alloc _) h1
  have HS1 := Lib.hid hs1; clear hs1 hO1
  go_wp2_with fail
  refine (PK.out _ A1 c1 (by exact HT.out.of (by repeat (first | with_reducible exact Within.refl _ | with_reducible assumption | with_reducible refine Within.alloc ?_ _ | with_reducible refine Within.drew ?_ | with_reducible refine Within.drewN ?_ _ | with_reducible refine Within.setCell ?_ (by first | (simp; done) | (simp; omega)) _ | with_reducible refine Within.trans ?_ (by assumption)))) (by exact HS1.out.of (by repeat (first | with_reducible exact Within.refl _ | with_reducible assumption | with_reducible refine Within.alloc ?_ _ | with_reducible refine Within.drew ?_ | with_reducible refine Within.drewN ?_ _ | with_reducible refine Within.setCell ?_ (by first | (simp; done) | (simp; omega)) _ | with_reducible refine Within.trans ?_ (by assumption))))).mono ?_; rintro e2 w2 ⟨v2, rfl, hO2, h2⟩
  obtain ⟨A2, c2, rfl, hc2, hs2, _⟩ := hO2.form
  have HS2 := Lib.hid hs2; clear hs2 hO2
  rw [HNN.out] at hc2 ⊢
  have d0 : w2.cell? ⟨w1.heap.size, 0, none⟩ = some (.int .i64 (n : Int)) := (h2.cells _ _ (by simp)).trans (by simp)
  have d1 : w2.cell? ⟨w1.heap.size, 1, none⟩ = some (.int .u32 (q : Int)) := (h2.cells _ _ (by simp)).trans (by simp)
  have d2 : w2.cell? ⟨w1.heap.size, 2, none⟩ = some (.int .u32 (t : Int)) := (h2.cells _ _ (by simp)).trans (by simp)
  have d3 : w2.cell? ⟨w1.heap.size, 3, none⟩ = some (.slice A1 l.length c1) := (h2.cells _ _ (by simp)).trans (by simp)
  have lt2 : w1.heap.size < w2.heap.size := World.block_lt_of_cell? _ _ d0
  have hW2 : Within w w2 := Within.trans (hW1.alloc _) h2
  have hW12 : Within w1 w2 := Within.trans ((Within.refl w1).alloc _) h2
  have HS1 := Lib.hid (HS1.out.of hW12)
  have c2k : (k : Int) ≤ (c2 : Int) := by omega
  have k0 : (0 : Int) ≤ (k : Int) := by omega
  have kN : (k : Int) ≤ (N : Int) := by omega
  have c2N : (N : Int) ≤ (c2 : Int) := by omega
  have c2kn : k ≤ c2 := by omega
  have kNn : k ≤ N := by omega
  have c2Nn : N ≤ c2 := by omega
  go_wp2_with fail
  refine (New_any _).mono ?_; rintro e3 w3 ⟨rfl, hR3, hW3⟩
  obtain ⟨bk, hbk⟩ : ∃ bk, bk = w2.heap.size := ⟨_, rfl⟩
  rw [← hbk] at hR3 ⊢
  have hbg : bk ≠ 1 := by have := gb_lt (HT.out.of hW2); omega
  have hrow : ∃ v8 w8, (Builtin.append_ #[26, 26] 26 #[.slice none 0 0, .slice A2 k c2]).run Tryd.prog w3 = .ok v8 w8 ∧ OwnB w8 w3.heap.size v8 (pl.take k) ∧ Below w3.heap.size w3 w8 := by
    have ht : SlAt w3 A2 (u8v (pl.take k)) := by have := (HS2.out.of hW3).take k; unfold u8v at this ⊢; rwa [← List.map_take] at this
    obtain ⟨v8, w8, x1, x2, x3⟩ := run_app_u8 w3 w3.heap.size (.slice none 0 0) [] (pl.take k) (OwnB.nil_ _ _) A2 c2 ht (by rw [List.length_take, HNN.out, List.length_nil]; omega) (Nat.le_refl _)
    rw [List.length_take, HNN.out, Nat.min_eq_left (by omega)] at x1; rw [List.nil_append] at x2
    exact ⟨v8, w8, x1, x2, x3⟩
  obtain ⟨v8, w8, hrun8, hO8, hB8⟩ := hrow
  have hW8 : Within w3 w8 := hB8
  have hX8 : Within w2 w8 := hW3.trans hW8
  have RUN8 := Lib.hid hrun8; clear hrun8
  have hR8 := hR3.of hW8
  obtain ⟨A8, c8, hv8, hc8, hs8, hA8⟩ := hO8.form
  have htl : (pl.take k).length = k := by rw [List.length_take, HNN.out]; omega
  rw [htl] at hv8 hc8
  have FD := Feed_any bk hbg [] (pl.take k) (fun x hx => by cases hx) (HBY.out.take k) A8 c8 (by simp only [List.length_nil, htl]; omega) 0 0 (by simp only [List.length_nil, htl]; omega) (by simp only [List.length_nil, htl]; omega) _ w8 (HT.out.of (hW2.trans hX8)) hR8 (Nat.lt_succ_self _) hs8
  rw [htl] at FD
  have HFD := Lib.hid FD; clear FD
  have HO8 := Lib.hid hO8; have HV8 := Lib.hid hv8; have HR8 := Lib.hid hR8; have HR3 := Lib.hid hR3; clear hR8 hR3 hs8 hO8
  rw [hv8] at RUN8
  have HHB := Lib.hid hbk; have HTL := Lib.hid htl; clear hbk hv8 htl hA8
  go_wp2_with (at_builtin; refine wpList_append_run rfl (.const (.slice none 0 0)) (.tmp 40) 26 rfl _ _ rfl rfl RUN8.out ?_)
  refine HFD.out.mono ?_; rintro e9 w9 ⟨v9, rfl, hO9, hR9, hB9⟩
  rw [FB.out k hk] at hO9 hR9
  simp only [List.length_nil, Nat.add_zero] at hR9
  clear hc8
  obtain ⟨A9, c9, rfl, _, _⟩ := hO9.form
  clear hO9
  have HR9 := Lib.hid hR9; clear hR9
  have hX9 : Within w2 w9 := hX8.aside hB9 (by have := HHB.out; omega)
  have hgg : ∃ gg, w3.heap.size ≤ gg ∧ (0 < k → A8 = some ⟨gg, 0, none⟩ ∧ gg < w8.heap.size ∧ RowB w8 gg (pl.take k)) := by
    rcases Nat.eq_zero_or_pos k with h0 | h0
    · exact ⟨w3.heap.size, Nat.le_refl _, fun h => by omega⟩
    · obtain ⟨gg, cg, hvg, _, hgg, hgl, hrow⟩ := HO8.out.row (by rw [HTL.out]; exact h0)
      rw [HV8.out, HTL.out] at hvg
      injection hvg with e1 e2 e3
      exact ⟨gg, hgg, fun _ => ⟨e1, hgl, hrow⟩⟩
  obtain ⟨gg, hgg3, hgrow⟩ := hgg
  have HG := Lib.hid hgrow; clear hgrow
  have hbgg : bk < gg := by have := HHB.out; have := HR8.out.lt; have h4 := hW3.size; have := HR3.out.lt; omega
  have HB9 := Lib.hid hB9; clear hB9
  have HX9 := Lib.hid hX9; have HBG := Lib.hid hbg; clear hX9 hbg hX8 hW8 hB8
  go_wp2
  go_loopw [49] (fun iv wr => ∃ i : Nat, i ≤ k ∧ iv = .int .i64 (i : Int) ∧ Within w2 wr ∧ RdrP wr bk w8.heap.size (pl.take k) 0 0 ∧ ∃ m, m.length = k ∧ Bytes m ∧ (0 < k → RowB wr gg m ∧ gg < wr.heap.size)) (fun iv _ => k - (intOf iv).toNat)
  case atStart => exact ⟨0, by omega, rfl, HX9.out, HR9.out, pl.take k, HTL.out, HBY.out.take k, fun h => ⟨⟨fun j hj => ((HB9.out.cells _ _ (HG.out h).2.1 (by omega)).trans ((HG.out h).2.2.1 j hj)), fun o => (HB9.out.frozens _ _ (HG.out h).2.1 (by omega)).trans ((HG.out h).2.2.2 o)⟩, Nat.lt_of_lt_of_le (HG.out h).2.1 HB9.out.size⟩⟩
  case round =>
    obtain ⟨i, hi, rfl, hin, hrd, m, hm, hmb, hrow⟩ := hrel
    by_cases hlt : i < k
    · obtain ⟨hrow, hgr⟩ := hrow (by omega)
      obtain ⟨rfl, hg8, _⟩ := HG.out (by omega)
      obtain ⟨x, hx⟩ : ∃ x, x = m.getD i 0 := ⟨_, rfl⟩
      have hxl : x < 256 := by rw [hx]; exact hmb.at (by omega)
      have cx := hrow.1 i (by omega)
      rw [← hx] at cx
      have fx := hrow.2
      have hxor := u8_xor_nat x 77 hxl (by decide)
      have hnl : x ^^^ 77 < 256 := Nat.xor_lt_two_pow (n := 8) hxl (by decide)
      have hxor' : bits .xor .u8 (x : Int) 77 = ((x ^^^ 77 : Nat) : Int) := hxor
      have HRW := Lib.hid hrow; have HM := Lib.hid hm; have HMB := Lib.hid hmb; have HIN := Lib.hid hin; have HRD' := Lib.hid hrd; have HNL := Lib.hid hnl; have H8 := Lib.hid hg8; clear hrow hm hmb hin hrd hx hxor hnl hg8
      obtain ⟨xx, hxx⟩ : ∃ xx, x ^^^ 77 = xx := ⟨_, rfl⟩
      rw [hxx] at HNL hxor'
      clear hxx
      go_wp2
      go_roundw
      case rel =>
        refine ⟨i + 1, hlt, by go_num, Within.setCell HIN.out (by show w2.heap.size ≤ gg; have := hW3.size; omega) _, HRD'.out.but ((But.refl gg wr).own _) (by omega) H8.out, m.set i xx, by rw [List.length_set]; exact HM.out, ?_, fun _ => ⟨HRW.out.set i xx (by rw [HM.out]; exact hlt), by show gg < (wr.setCell _ _).heap.size; simpa [World.setCell] using hgr⟩⟩
        intro y hy
        rcases List.mem_or_eq_of_mem_set hy with h | rfl
        · exact HMB.out y h
        · exact HNL.out
      case measure => simp [intOf]; omega
    · obtain rfl : i = k := by omega
      clear hrow hmb hm
      obtain ⟨ad, hA2, _, _⟩ := HS2.out (by rw [u8v_len, HNN.out]; omega)
      subst hA2
      have hdl : (pl.drop i).length = N - i := by rw [List.length_drop, HNN.out]
      have hsd : SlAt wr (some (ad.add i)) (u8v (pl.drop i)) := by have := (HS2.out.of hin).drop i; unfold u8v at this ⊢; rwa [← List.map_drop] at this
      have FD := Feed_any bk HBG.out (pl.take i) (pl.drop i) (HBY.out.take i) (HBY.out.drop i) (some (ad.add i)) (c2 - i) (by rw [HTL.out, hdl]; omega) 0 0 (by rw [HTL.out, hdl]; omega) (by rw [HTL.out, hdl]; omega) _ wr (HT.out.of (hW2.trans hin)) hrd HR8.out.lt hsd
      rw [hdl] at FD
      have HFD2 := Lib.hid FD; clear FD
      have n1 : ¬ c2 = i := by omega
      have li : (i : Int) ≤ (N : Int) := by omega
      have HIN := Lib.hid hin; clear hin hrd hsd hdl
      go_wp2_with fail
      refine HFD2.out.mono ?_; rintro e12 w12 ⟨v12, rfl, hO12, hR12, hB12⟩
      rw [FW.out i] at hO12
      clear hR12
      obtain ⟨A12, c12, rfl, hc12, hat, _⟩ := hO12.at
      obtain ⟨gd, Av, cv, rfl, hbl2, x0, x1, x2, x3, hsv⟩ := hat 0 rd rfl
      simp only [Nat.mul_zero, Nat.zero_add] at x0 x1 x2 x3
      have hX12 : Within w2 w12 := HIN.out.aside hB12 (by have := HHB.out; omega)
      have hsv' : SlAt w12 Av (f64v l) := by rw [HRD.out] at hsv; exact hsv
      have er : rd.sensor = n ∧ rd.seq = q ∧ rd.stamp = t ∧ rd.vals = l := by rw [HRD.out]; exact ⟨rfl, rfl, rfl, rfl⟩
      rw [er.1] at x0
      rw [er.2.1] at x1
      rw [er.2.2.1] at x2
      rw [er.2.2.2] at x3
      have hsa : SlAt w12 A1 (f64v l) := HS1.out.of hX12
      have y0 : w12.cell? ⟨w1.heap.size, 0, none⟩ = some (.int .i64 (n : Int)) := (hX12.cells _ _ lt2).trans d0
      have y1 : w12.cell? ⟨w1.heap.size, 1, none⟩ = some (.int .u32 (q : Int)) := (hX12.cells _ _ lt2).trans d1
      have y2 : w12.cell? ⟨w1.heap.size, 2, none⟩ = some (.int .u32 (t : Int)) := (hX12.cells _ _ lt2).trans d2
      have y3 : w12.cell? ⟨w1.heap.size, 3, none⟩ = some (.slice A1 l.length c1) := (hX12.cells _ _ lt2).trans d3
      have lt12 : w1.heap.size < w12.heap.size := World.block_lt_of_cell? _ _ y0
      have hW12w : Within w w12 := hW2.trans hX12
      have HSV := Lib.hid hsv'; have HSA := Lib.hid hsa; have HW12 := Lib.hid hW12w
      clear hat hO12 hB12 hsv er hsv' hsa hW12w hX12 hc12
      simp only [List.length_singleton]
      go_wp2_with fail
      refine wp_region_schG (fun W => W.cell? ⟨gd, 0, none⟩ = some (.int .i64 (n : Int)) ∧ W.cell? ⟨gd, 1, none⟩ = some (.int .u32 (q : Int)) ∧ W.cell? ⟨gd, 2, none⟩ = some (.int .u32 (t : Int)) ∧ W.cell? ⟨gd, 3, none⟩ = some (.slice Av l.length cv) ∧ W.cell? ⟨w1.heap.size, 0, none⟩ = some (.int .i64 (n : Int)) ∧ W.cell? ⟨w1.heap.size, 1, none⟩ = some (.int .u32 (q : Int)) ∧ W.cell? ⟨w1.heap.size, 2, none⟩ = some (.int .u32 (t : Int)) ∧ W.cell? ⟨w1.heap.size, 3, none⟩ = some (.slice A1 l.length c1) ∧ gd < W.heap.size ∧ w1.heap.size < W.heap.size ∧ SlAt W Av (f64v l) ∧ SlAt W A1 (f64v l) ∧ FmS W ∧ Within w W) 13 (.firm 0 (.firm 1 (.firm 2 (.firm 3 (.firm 4 (.firm 5 (.firm 6 (.firm 7 (.one 8 (.firm 9 (.firm 10 (.one 11 (.firm 12 (.one 13 .nil)))))))))))))) (by kernel_rfl) (by kernel_rfl) ⟨x0, x1, x2, x3, y0, y1, y2, y3, hbl2, lt12, HSV.out, HSA.out, HT.out.of HW12.out, HW12.out⟩ ?_
      rintro w0 ⟨k0, k1, k2, k3, m0, m1, m2, m3, lb2, lb1, hsv0, hsa0, ht0, hw0⟩
      try simp only [Act.put, List.setIfInBounds_toArray, List.set_cons_zero, List.set_cons_succ]
      apply sch_firm rfl rfl (by repeat (first | with_reducible exact Within.refl _ | with_reducible assumption | with_reducible refine Within.alloc ?_ _ | with_reducible refine Within.drew ?_ | with_reducible refine Within.drewN ?_ _ | with_reducible refine Within.setCell ?_ (by first | (simp; done) | (simp; omega)) _ | with_reducible refine Within.trans ?_ (by assumption)))
      · intro wq hq
        have hcq := hq.cells
        clear hq
        go_simp
        first | rfl | (trace_state; fail)
      try simp only [Act.put, List.setIfInBounds_toArray, List.set_cons_zero, List.set_cons_succ]
      apply sch_firm rfl rfl (by repeat (first | with_reducible exact Within.refl _ | with_reducible assumption | with_reducible refine Within.alloc ?_ _ | with_reducible refine Within.drew ?_ | with_reducible refine Within.drewN ?_ _ | with_reducible refine Within.setCell ?_ (by first | (simp; done) | (simp; omega)) _ | with_reducible refine Within.trans ?_ (by assumption)))
      · intro wq hq
        have hcq := hq.cells
        clear hq
        go_simp
        first | rfl | (trace_state; fail)
      try simp only [Act.put, List.setIfInBounds_toArray, List.set_cons_zero, List.set_cons_succ]
      apply sch_firm rfl rfl (by repeat (first | with_reducible exact Within.refl _ | with_reducible assumption | with_reducible refine Within.alloc ?_ _ | with_reducible refine Within.drew ?_ | with_reducible refine Within.drewN ?_ _ | with_reducible refine Within.setCell ?_ (by first | (simp; done) | (simp; omega)) _ | with_reducible refine Within.trans ?_ (by assumption)))
      · intro wq hq
        have hcq := hq.cells
        clear hq
        go_simp
        first | rfl | (trace_state; fail)
      try simp only [Act.put, List.setIfInBounds_toArray, List.set_cons_zero, List.set_cons_succ]
      apply sch_firm rfl rfl (by repeat (first | with_reducible exact Within.refl _ | with_reducible assumption | with_reducible refine Within.alloc ?_ _ | with_reducible refine Within.drew ?_ | with_reducible refine Within.drewN ?_ _ | with_reducible refine Within.setCell ?_ (by first | (simp; done) | (simp; omega)) _ | with_reducible refine Within.trans ?_ (by assumption)))
      · intro wq hq
        have hcq := hq.cells
        clear hq
        go_simp
        first | rfl | (trace_state; fail)
      try simp only [Act.put, List.setIfInBounds_toArray, List.set_cons_zero, List.set_cons_succ]
      apply sch_want rfl (by first | rfl | decide | (simp [Region.wanted, yielded]; done)) (by repeat (first | with_reducible exact Within.refl _ | with_reducible assumption | with_reducible refine Within.alloc ?_ _ | with_reducible refine Within.drew ?_ | with_reducible refine Within.drewN ?_ _ | with_reducible refine Within.setCell ?_ (by first | (simp; done) | (simp; omega)) _ | with_reducible refine Within.trans ?_ (by assumption)))
      · intro wq hq
        have hcq := hq.cells
        clear hq
        go_simp
        first | rfl | (trace_state; fail)
      try simp only [Act.put, List.setIfInBounds_toArray, List.set_cons_zero, List.set_cons_succ]
      apply sch_want rfl (by first | rfl | decide | (simp [Region.wanted, yielded]; done)) (by repeat (first | with_reducible exact Within.refl _ | with_reducible assumption | with_reducible refine Within.alloc ?_ _ | with_reducible refine Within.drew ?_ | with_reducible refine Within.drewN ?_ _ | with_reducible refine Within.setCell ?_ (by first | (simp; done) | (simp; omega)) _ | with_reducible refine Within.trans ?_ (by assumption)))
      · intro wq hq
        have hcq := hq.cells
        clear hq
        go_simp
        first | rfl | (trace_state; fail)
      try simp only [Act.put, List.setIfInBounds_toArray, List.set_cons_zero, List.set_cons_succ]
      apply sch_want rfl (by first | rfl | decide | (simp [Region.wanted, yielded]; done)) (by repeat (first | with_reducible exact Within.refl _ | with_reducible assumption | with_reducible refine Within.alloc ?_ _ | with_reducible refine Within.drew ?_ | with_reducible refine Within.drewN ?_ _ | with_reducible refine Within.setCell ?_ (by first | (simp; done) | (simp; omega)) _ | with_reducible refine Within.trans ?_ (by assumption)))
      · intro wq hq
        have hcq := hq.cells
        clear hq
        go_simp
        first | rfl | (trace_state; fail)
      try simp only [Act.put, List.setIfInBounds_toArray, List.set_cons_zero, List.set_cons_succ]
      apply sch_want rfl (by first | rfl | decide | (simp [Region.wanted, yielded]; done)) (by repeat (first | with_reducible exact Within.refl _ | with_reducible assumption | with_reducible refine Within.alloc ?_ _ | with_reducible refine Within.drew ?_ | with_reducible refine Within.drewN ?_ _ | with_reducible refine Within.setCell ?_ (by first | (simp; done) | (simp; omega)) _ | with_reducible refine Within.trans ?_ (by assumption)))
      · intro wq hq
        have hcq := hq.cells
        clear hq
        go_simp
        first | rfl | (trace_state; fail)
      try simp only [Act.put, List.setIfInBounds_toArray, List.set_cons_zero, List.set_cons_succ]
      refine sch_one_want rfl (by first | rfl | decide | (simp [Region.wanted, yielded]; done)) (fun K hK => ?_)
      go_simp
      refine (SM.out _ Av A1 cv c1 (by exact hsv0.of (by repeat (first | with_reducible exact Within.refl _ | with_reducible assumption | with_reducible refine Within.alloc ?_ _ | with_reducible refine Within.drew ?_ | with_reducible refine Within.drewN ?_ _ | with_reducible refine Within.setCell ?_ (by first | (simp; done) | (simp; omega)) _ | with_reducible refine Within.trans ?_ (by assumption)))) (by exact hsa0.of (by repeat (first | with_reducible exact Within.refl _ | with_reducible assumption | with_reducible refine Within.alloc ?_ _ | with_reducible refine Within.drew ?_ | with_reducible refine Within.drewN ?_ _ | with_reducible refine Within.setCell ?_ (by first | (simp; done) | (simp; omega)) _ | with_reducible refine Within.trans ?_ (by assumption))))).mono ?_; rintro e13 w13 ⟨rfl, h13⟩
      refine hK _ _ (fun _ => (by repeat (first | with_reducible exact Within.refl _ | with_reducible assumption | with_reducible refine Within.alloc ?_ _ | with_reducible refine Within.drew ?_ | with_reducible refine Within.drewN ?_ _ | with_reducible refine Within.setCell ?_ (by first | (simp; done) | (simp; omega)) _ | with_reducible refine Within.trans ?_ (by assumption)))) ?_
      clear hK K
      try simp only [Act.put, List.setIfInBounds_toArray, List.set_cons_zero, List.set_cons_succ]
      apply sch_firm rfl rfl (by repeat (first | with_reducible exact Within.refl _ | with_reducible assumption | with_reducible refine Within.alloc ?_ _ | with_reducible refine Within.drew ?_ | with_reducible refine Within.drewN ?_ _ | with_reducible refine Within.setCell ?_ (by first | (simp; done) | (simp; omega)) _ | with_reducible refine Within.trans ?_ (by assumption)))
      · intro wq hq
        have hcq := hq.cells
        clear hq
        go_simp
        first | rfl | (trace_state; fail)
      try simp only [Act.put, List.setIfInBounds_toArray, List.set_cons_zero, List.set_cons_succ]
      apply sch_firm rfl rfl (by repeat (first | with_reducible exact Within.refl _ | with_reducible assumption | with_reducible refine Within.alloc ?_ _ | with_reducible refine Within.drew ?_ | with_reducible refine Within.drewN ?_ _ | with_reducible refine Within.setCell ?_ (by first | (simp; done) | (simp; omega)) _ | with_reducible refine Within.trans ?_ (by assumption)))
      · intro wq hq
        have hcq := hq.cells
        clear hq
        go_simp
        first | rfl | (trace_state; fail)
      try simp only [Act.put, List.setIfInBounds_toArray, List.set_cons_zero, List.set_cons_succ]
      refine sch_one_want rfl (by first | rfl | decide | (simp [Region.wanted, yielded]; done)) (fun K hK => ?_)
      go_simp
      refine (awake_true _ (by exact ht0.of (by repeat (first | with_reducible exact Within.refl _ | with_reducible assumption | with_reducible refine Within.alloc ?_ _ | with_reducible refine Within.drew ?_ | with_reducible refine Within.drewN ?_ _ | with_reducible refine Within.setCell ?_ (by first | (simp; done) | (simp; omega)) _ | with_reducible refine Within.trans ?_ (by assumption))))).mono ?_; rintro e14 w14 ⟨rfl, h14⟩
      refine hK _ _ (fun _ => (by repeat (first | with_reducible exact Within.refl _ | with_reducible assumption | with_reducible refine Within.alloc ?_ _ | with_reducible refine Within.drew ?_ | with_reducible refine Within.drewN ?_ _ | with_reducible refine Within.setCell ?_ (by first | (simp; done) | (simp; omega)) _ | with_reducible refine Within.trans ?_ (by assumption)))) ?_
      clear hK K
      try simp only [Act.put, List.setIfInBounds_toArray, List.set_cons_zero, List.set_cons_succ]
      apply sch_firm rfl rfl (by repeat (first | with_reducible exact Within.refl _ | with_reducible assumption | with_reducible refine Within.alloc ?_ _ | with_reducible refine Within.drew ?_ | with_reducible refine Within.drewN ?_ _ | with_reducible refine Within.setCell ?_ (by first | (simp; done) | (simp; omega)) _ | with_reducible refine Within.trans ?_ (by assumption)))
      · intro wq hq
        have hcq := hq.cells
        clear hq
        go_simp
        first | rfl | (trace_state; fail)
      try simp only [Act.put, List.setIfInBounds_toArray, List.set_cons_zero, List.set_cons_succ]
      refine sch_one rfl rfl (fun K hK => ?_)
      go_simp
      refine hK _ _ (fun h => absurd h (by decide)) ?_
      clear hK K
      try simp only [Act.put, List.setIfInBounds_toArray, List.set_cons_zero, List.set_cons_succ]
      refine sch_nil ?_
      go_wp2
      go_ret
      exact ⟨rfl, (by repeat (first | with_reducible exact Within.refl _ | with_reducible assumption | with_reducible refine Within.alloc ?_ _ | with_reducible refine Within.drew ?_ | with_reducible refine Within.drewN ?_ _ | with_reducible refine Within.setCell ?_ (by first | (simp; done) | (simp; omega)) _ | with_reducible refine Within.trans ?_ (by assumption)))⟩

theorem keeps_walk (s : Int) (q t : Nat) (A : Option Addr) (c : Nat) (l : List Nat) (hq : q < 4294967296) (ht : t < 4294967296) (hw : Words64 l) (hl : l.length * 8 ≤ 140737488355328) (cut : Int) (w : World) (hT : FmS w) (hr : SlAt w A (u64v l)) : Calls Tryd.prog 7 #[.agg #[.int .i64 s, .int .u32 (q : Int), .int .u32 (t : Int), .slice A l.length c], .int .i64 cut] w fun e w' => e = .returned (.bool true) ∧ Within w w' := by
  by_cases h : checkV pf s l = 0
  · obtain ⟨n, rfl, _, hok⟩ := pack_is (q := q) (t := t) hq ht hw h
    exact keeps_ok n q t A c l hw hl hok cut w hT hr
  · exact keeps_bad s q t A c l hq ht hw hl h cut w hT hr

end Go.Proofs.YtmpcnhiklpahnaaDoor
