/- Packets' lists of numbers: walks. -/
import Derived.Test.YtmpcnhiklpahnaaDoorPfl
import Derived.Test.YtmpcnhiklpahnaaDoorPk1
namespace Go.Proofs.YtmpcnhiklpahnaaDoor
open Go.RowKit

/-- numbers of 64 bits -/
def Words64 (l : List Nat) : Prop := ∀ x ∈ l, x < 18446744073709551616
theorem Words64.at {l : List Nat} (h : Words64 l) {k : Nat} (hk : k < l.length) : l.getD k 0 < 18446744073709551616 := by
  rw [List.getD, List.getElem?_eq_getElem hk]; exact h _ (List.getElem_mem hk)
theorem all_snoc {p : Nat → Bool} {l : List Nat} {k : Nat} (h : k < l.length) : (l.take (k + 1)).all p = ((l.take k).all p && p (l.getD k 0)) := by
  rw [take_snoc_getD h, List.all_append]; simp
theorem all_false {p : Nat → Bool} {l : List Nat} {k : Nat} (h : k < l.length) (hp : p (l.getD k 0) = false) : l.all p = false := by
  rw [List.all_eq_false]
  refine ⟨l.getD k 0, ?_, by rw [hp]; decide⟩
  rw [List.getD, List.getElem?_eq_getElem h]; exact List.getElem_mem h
theorem class_yes {x : Nat} (h : finD x = true) : ((classD x : Int) == 1) = false ∧ ((classD x : Int) == 2) = false := by
  have : 2 < classD x := of_decide_eq_true h
  exact ⟨beq_eq_false_iff_ne.2 (by omega), beq_eq_false_iff_ne.2 (by omega)⟩
theorem class_no {x : Nat} (h : finD x = false) : classD x = 1 ∨ classD x = 2 := by
  have h1 : ¬ 2 < classD x := of_decide_eq_false h
  have := classD_range x
  omega

set_option maxRecDepth 100000 in
set_option maxHeartbeats 600000 in
theorem Finite_any (A : Option Addr) (c : Nat) (l : List Nat) (hw : Words64 l) (hl : l.length ≤ 1152921504606846976) (w : World) (hr : SlAt w A (f64v l)) : Calls Tryd.prog 38 #[.slice A l.length c] w fun e w' => e = .returned (.bool (l.all finD)) ∧ Within w w' := by
  have HW := Lib.hid hw; have HR := Lib.hid hr; clear hw hr
  go_enter Tryd.func38, Tryd.ntmps38
  go_wp2
  go_loopw [8] (fun iv wr => ∃ k : Nat, k ≤ l.length ∧ iv = .int .i64 (k : Int) ∧ (l.take k).all finD = true ∧ Within w wr) (fun iv _ => l.length - (intOf iv).toNat)
  case atStart => exact ⟨0, Nat.zero_le _, rfl, rfl, Within.refl _⟩
  case round =>
    obtain ⟨k, hk, rfl, hall, hin⟩ := hrel
    have HA := Lib.hid hall; clear hall
    by_cases hlt : k < l.length
    · obtain ⟨ad, rfl, hblk, hc⟩ := (HR.out.of hin).at hlt
      obtain ⟨x, hx⟩ : ∃ x, x = l.getD k 0 := ⟨_, rfl⟩
      have hx2 : x < 18446744073709551616 := by rw [hx]; exact HW.out.at hlt
      rw [← hx] at hc
      have HX := Lib.hid hx; have HX2 := Lib.hid hx2; clear hx hx2
      by_cases hf : finD x = true
      · have hnext : (l.take (k + 1)).all finD = true := by rw [all_snoc hlt, HA.out, ← HX.out, hf]; rfl
        have HN := Lib.hid hnext; clear hnext
        obtain ⟨g1, g2⟩ := class_yes hf
        clear hf
        go_wp2_with fail
        refine (Class_D x HX2.out _).mono ?_; rintro e1 w1 ⟨rfl, hb1⟩
        go_wp2
        go_roundw
        case rel => exact ⟨k + 1, hlt, by go_num, HN.out, (by repeat (first | with_reducible exact Within.refl _ | with_reducible assumption | with_reducible refine Within.alloc ?_ _ | with_reducible refine Within.drew ?_ | with_reducible refine Within.setCell ?_ (by first | (simp; done) | (simp; omega)) _ | with_reducible refine Within.trans ?_ (by assumption)))⟩
        case measure => simp [intOf]; omega
      · have hno : l.all finD = false := all_false hlt (by rw [← HX.out]; simpa using hf)
        have HNO := Lib.hid hno; clear hno
        have hc1 := class_no (by simpa using hf : finD x = false)
        have CL := Lib.hid (fun w => Class_D x HX2.out w)
        generalize classD x = cx at *
        clear hf
        rcases hc1 with rfl | rfl
        · go_wp2_with fail
          refine (CL.out _).mono ?_; rintro e1 w1 ⟨rfl, hb1⟩
          go_wp2
          go_ret
          exact ⟨ret_bool HNO.out.symm, (by repeat (first | with_reducible exact Within.refl _ | with_reducible assumption | with_reducible refine Within.alloc ?_ _ | with_reducible refine Within.drew ?_ | with_reducible refine Within.setCell ?_ (by first | (simp; done) | (simp; omega)) _ | with_reducible refine Within.trans ?_ (by assumption)))⟩
        go_wp2_with fail
        refine (CL.out _).mono ?_; rintro e1 w1 ⟨rfl, hb1⟩
        go_wp2
        go_ret
        exact ⟨ret_bool HNO.out.symm, (by repeat (first | with_reducible exact Within.refl _ | with_reducible assumption | with_reducible refine Within.alloc ?_ _ | with_reducible refine Within.drew ?_ | with_reducible refine Within.setCell ?_ (by first | (simp; done) | (simp; omega)) _ | with_reducible refine Within.trans ?_ (by assumption)))⟩
    · obtain rfl : k = l.length := by omega
      go_wp2
      go_ret
      exact ⟨ret_bool (by rw [← HA.out, List.take_of_length_le (Nat.le_refl _)]), hin⟩

set_option maxRecDepth 100000 in
set_option maxHeartbeats 600000 in
theorem RallFinite_any (A : Option Addr) (c : Nat) (l : List Nat) (hw : Words64 l) (hl : l.length ≤ 1152921504606846976) (w : World) (hr : SlAt w A (f64v l)) : Calls Tryd.prog 39 #[.slice A l.length c] w fun e w' => e = .returned (.bool (l.all finD)) ∧ Within w w' := by
  have HW := Lib.hid hw; have HR := Lib.hid hr; clear hw hr
  go_enter Tryd.func39, Tryd.ntmps39
  go_wp2
  go_loopw [7] (fun iv wr => ∃ k : Nat, k ≤ l.length ∧ iv = .int .i64 (k : Int) ∧ (l.take k).all finD = true ∧ Within w wr) (fun iv _ => l.length - (intOf iv).toNat)
  case atStart => exact ⟨0, Nat.zero_le _, rfl, rfl, Within.refl _⟩
  case round =>
    obtain ⟨k, hk, rfl, hall, hin⟩ := hrel
    have HA := Lib.hid hall; clear hall
    by_cases hlt : k < l.length
    · obtain ⟨ad, rfl, hblk, hc⟩ := (HR.out.of hin).at hlt
      obtain ⟨x, hx⟩ : ∃ x, x = l.getD k 0 := ⟨_, rfl⟩
      have hx2 : x < 18446744073709551616 := by rw [hx]; exact HW.out.at hlt
      rw [← hx] at hc
      have HX := Lib.hid hx; have HX2 := Lib.hid hx2; clear hx hx2
      by_cases hf : finD x = true
      · have hnext : (l.take (k + 1)).all finD = true := by rw [all_snoc hlt, HA.out, ← HX.out, hf]; rfl
        have HN := Lib.hid hnext; clear hnext
        have FI := Lib.hid (fun w => Rfinite x HX2.out w)
        have hf' : decide (2 < classD x) = true := hf
        rw [hf'] at FI
        clear hf hf'
        go_wp2_with fail
        refine (FI.out _).mono ?_; rintro e1 w1 ⟨rfl, rfl⟩
        go_wp2
        go_roundw
        case rel => exact ⟨k + 1, hlt, by go_num, HN.out, (by repeat (first | with_reducible exact Within.refl _ | with_reducible assumption | with_reducible refine Within.alloc ?_ _ | with_reducible refine Within.drew ?_ | with_reducible refine Within.setCell ?_ (by first | (simp; done) | (simp; omega)) _ | with_reducible refine Within.trans ?_ (by assumption)))⟩
        case measure => simp [intOf]; omega
      · have hno : l.all finD = false := all_false hlt (by rw [← HX.out]; simpa using hf)
        have HNO := Lib.hid hno; clear hno
        have FI := Lib.hid (fun w => Rfinite x HX2.out w)
        have hf' : decide (2 < classD x) = false := by simpa [finD] using hf
        rw [hf'] at FI
        clear hf hf'
        go_wp2_with fail
        refine (FI.out _).mono ?_; rintro e1 w1 ⟨rfl, rfl⟩
        go_wp2
        go_ret
        exact ⟨ret_bool HNO.out.symm, (by repeat (first | with_reducible exact Within.refl _ | with_reducible assumption | with_reducible refine Within.alloc ?_ _ | with_reducible refine Within.drew ?_ | with_reducible refine Within.setCell ?_ (by first | (simp; done) | (simp; omega)) _ | with_reducible refine Within.trans ?_ (by assumption)))⟩
    · obtain rfl : k = l.length := by omega
      go_wp2
      go_ret
      exact ⟨ret_bool (by rw [← HA.out, List.take_of_length_le (Nat.le_refl _)]), hin⟩

set_option maxRecDepth 100000 in
set_option maxHeartbeats 600000 in
theorem Rsamelist_any (A B : Option Addr) (c d : Nat) (la lb : List Nat) (hla : la.length ≤ 1152921504606846976) (_hlb : lb.length ≤ 1152921504606846976) (w : World) (ha : SlAt w A (f64v la)) (hb : SlAt w B (f64v lb)) :
    Calls Tryd.prog 51 #[.slice A la.length c, .slice B lb.length d] w fun e w' => e = .returned (.bool (decide (la.map canonD = lb.map canonD))) ∧ Within w w' := by
  have HA := Lib.hid ha; have HB := Lib.hid hb; clear ha hb
  by_cases hlen : la.length = lb.length
  · have d1 : ((la.length : Int) != (lb.length : Int)) = false := by rw [bne_eq_false_iff_eq]; omega
    have HL := Lib.hid hlen
    go_enter Tryd.func51, Tryd.ntmps51
    go_wp2
    go_loopw [13] (fun iv wr => ∃ k : Nat, k ≤ la.length ∧ iv = .int .i64 (k : Int) ∧ (la.take k).map canonD = (lb.take k).map canonD ∧ Within w wr) (fun iv _ => la.length - (intOf iv).toNat)
    case atStart => exact ⟨0, Nat.zero_le _, rfl, rfl, Within.refl _⟩
    case round =>
      obtain ⟨k, hk, rfl, hsm, hin⟩ := hrel
      have HS := Lib.hid hsm; clear hsm
      by_cases hlt : k < la.length
      · have hltb : k < lb.length := by have := HL.out; omega
        obtain ⟨ad, rfl, hblk, hc⟩ := (HA.out.of hin).at hlt
        obtain ⟨be, rfl, hblb, hd⟩ := (HB.out.of hin).at hltb
        obtain ⟨x, hx⟩ : ∃ x, x = la.getD k 0 := ⟨_, rfl⟩
        obtain ⟨y, hy⟩ : ∃ y, y = lb.getD k 0 := ⟨_, rfl⟩
        rw [← hx] at hc
        rw [← hy] at hd
        have HX := Lib.hid hx; have HY := Lib.hid hy; clear hx hy
        have SM := Lib.hid (fun w => Rsame_D x y w)
        by_cases hs : canonD x = canonD y
        · have hnext : (la.take (k + 1)).map canonD = (lb.take (k + 1)).map canonD := by
            rw [take_snoc_getD hlt, take_snoc_getD hltb, List.map_append, List.map_append, HS.out, ← HX.out, ← HY.out, List.map_singleton, List.map_singleton, hs]
          have HN := Lib.hid hnext
          rw [decide_eq_true hs] at SM
          clear hnext hs
          go_wp2
          refine wp_region_within (by kernel_rfl) (by kernel_rfl) ?_
          repeat
            apply wpq_step rfl
            · intro wq hCq
              have ca := (hCq.cell (p := ad.add k) (by rw [add_block]; exact hblk)).trans hc
              have cb := (hCq.cell (p := be.add k) (by rw [add_block]; exact hblb)).trans hd
              go_simp
              first | rfl | exact hCq.same (SM.out _) | (trace_state; fail)
            simp only [Act.put, List.setIfInBounds_toArray, List.set_cons_zero, List.set_cons_succ]
          refine wpQuiet_nil ?_
          intro w3 hb3
          go_wp2
          go_roundw
          case rel => exact ⟨k + 1, hlt, by go_num, HN.out, (by repeat (first | with_reducible exact Within.refl _ | with_reducible assumption | with_reducible refine Within.alloc ?_ _ | with_reducible refine Within.drew ?_ | with_reducible refine Within.setCell ?_ (by first | (simp; done) | (simp; omega)) _ | with_reducible refine Within.trans ?_ (by assumption)))⟩
          case measure => simp [intOf]; omega
        · have hno : ¬ la.map canonD = lb.map canonD := fun h => hs (by
            have := congrArg (fun l => l.getD k 0) h
            simp only [List.getD, List.getElem?_map, List.getElem?_eq_getElem hlt, List.getElem?_eq_getElem hltb, Option.map_some, Option.getD_some] at this
            rw [HX.out, HY.out, List.getD, List.getD, List.getElem?_eq_getElem hlt, List.getElem?_eq_getElem hltb]
            exact this)
          have HNO := Lib.hid hno
          rw [decide_eq_false hs] at SM
          clear hno hs
          go_wp2
          refine wp_region_within (by kernel_rfl) (by kernel_rfl) ?_
          repeat
            apply wpq_step rfl
            · intro wq hCq
              have ca := (hCq.cell (p := ad.add k) (by rw [add_block]; exact hblk)).trans hc
              have cb := (hCq.cell (p := be.add k) (by rw [add_block]; exact hblb)).trans hd
              go_simp
              first | rfl | exact hCq.same (SM.out _) | (trace_state; fail)
            simp only [Act.put, List.setIfInBounds_toArray, List.set_cons_zero, List.set_cons_succ]
          refine wpQuiet_nil ?_
          intro w3 hb3
          go_wp2
          go_ret
          exact ⟨ret_bool (decide_eq_false HNO.out).symm, (by repeat (first | with_reducible exact Within.refl _ | with_reducible assumption | with_reducible refine Within.alloc ?_ _ | with_reducible refine Within.drew ?_ | with_reducible refine Within.setCell ?_ (by first | (simp; done) | (simp; omega)) _ | with_reducible refine Within.trans ?_ (by assumption)))⟩
      · obtain rfl : k = la.length := by omega
        go_wp2
        go_ret
        refine ⟨ret_bool (decide_eq_true ?_).symm, hin⟩
        have h1 := HS.out
        rw [List.take_of_length_le (Nat.le_refl _), List.take_of_length_le (Nat.le_of_eq HL.out.symm)] at h1
        exact h1
  · have d1 : ((la.length : Int) != (lb.length : Int)) = true := by rw [bne_iff_ne]; omega
    have hno : ¬ la.map canonD = lb.map canonD := fun h => hlen (by have := congrArg List.length h; simpa using this)
    have HNO := Lib.hid hno
    clear hno hlen
    go_enter Tryd.func51, Tryd.ntmps51
    go_wp2
    go_ret
    exact ⟨ret_bool (decide_eq_false HNO.out).symm, Within.refl _⟩

set_option maxRecDepth 100000 in
set_option maxHeartbeats 600000 in
theorem Singles_any (A : Option Addr) (c : Nat) (s q t : Value) (l : List Nat) (hw : Words64 l) (hl : l.length ≤ 1152921504606846976) (w : World) (hT : FmS w) (hr : SlAt w A (f64v l)) : Calls Tryd.prog 16 #[.agg #[s, q, t, .slice A l.length c]] w fun e w' => e = .returned (.bool (l.all isSD)) ∧ Within w w' := by
  have HW := Lib.hid hw; have HR := Lib.hid hr; have HT := Lib.hid hT; clear hw hr hT
  go_enter Tryd.func16, Tryd.ntmps16
  go_wp2
  go_loopw [11] (fun iv wr => ∃ k : Nat, k ≤ l.length ∧ iv = .int .i64 (k : Int) ∧ (l.take k).all isSD = true ∧ Within w wr) (fun iv _ => l.length - (intOf iv).toNat)
  case atStart => exact ⟨0, Nat.zero_le _, rfl, rfl, (Within.refl _).alloc _⟩
  case round =>
    obtain ⟨k, hk, rfl, hall, hin⟩ := hrel
    have HA := Lib.hid hall; clear hall
    by_cases hlt : k < l.length
    · obtain ⟨ad, rfl, hblk, hc⟩ := (HR.out.of hin).at hlt
      obtain ⟨x, hx⟩ : ∃ x, x = l.getD k 0 := ⟨_, rfl⟩
      have hx2 : x < 18446744073709551616 := by rw [hx]; exact HW.out.at hlt
      rw [← hx] at hc
      have HX := Lib.hid hx; clear hx
      have hT := HT.out.of hin
      have NA := Lib.hid (fun w h => Narrow_any x 0 hx2 w h)
      have hE : nErr 0 = 0 := by decide
      rw [hE] at NA
      have WD := Lib.hid (fun w => Widen_any (nWord x 0) (nWord_lt x hx2 0) w)
      have SM : Hid (∀ w, Calls Tryd.prog 41 #[.float .f64 (wWord (nWord x 0)), .float .f64 x] w fun e w' => e = .returned (.bool (isSD x)) ∧ Within w w') := Lib.hid (fun w => Same_D _ x (wWord_lt _ (nWord_lt x hx2 0)) hx2 w)
      have HX2 := Lib.hid hx2; clear hx2 hE
      generalize wWord (nWord x 0) = wx at *
      generalize nWord x 0 = nx at *
      generalize nFlags x 0 = fx at *
      cases hf : isSD x
      · have hno : l.all isSD = false := all_false hlt (by rw [← HX.out]; exact hf)
        have HNO := Lib.hid hno
        rw [hf] at SM
        clear hno hf
        go_wp2_with fail
        refine (NA.out _ hT).mono ?_; rintro e1 w1 ⟨rfl, hb1⟩
        go_wp2_with fail
        refine (WD.out _).mono ?_; rintro e2 w2 ⟨rfl, hb2⟩
        go_wp2_with fail
        refine (SM.out _).mono ?_; rintro e3 w3 ⟨rfl, hb3⟩
        go_wp2
        go_ret
        exact ⟨ret_bool HNO.out.symm, (by repeat (first | with_reducible exact Within.refl _ | with_reducible assumption | with_reducible refine Within.alloc ?_ _ | with_reducible refine Within.drew ?_ | with_reducible refine Within.setCell ?_ (by first | (simp; done) | (simp; omega)) _ | with_reducible refine Within.trans ?_ (by assumption)))⟩
      · have hnext : (l.take (k + 1)).all isSD = true := by rw [all_snoc hlt, HA.out, ← HX.out, hf]; rfl
        have HN := Lib.hid hnext
        rw [hf] at SM
        clear hnext hf
        go_wp2_with fail
        refine (NA.out _ hT).mono ?_; rintro e1 w1 ⟨rfl, hb1⟩
        go_wp2_with fail
        refine (WD.out _).mono ?_; rintro e2 w2 ⟨rfl, hb2⟩
        go_wp2_with fail
        refine (SM.out _).mono ?_; rintro e3 w3 ⟨rfl, hb3⟩
        go_wp2
        go_roundw
        case rel => exact ⟨k + 1, hlt, by go_num, HN.out, (by repeat (first | with_reducible exact Within.refl _ | with_reducible assumption | with_reducible refine Within.alloc ?_ _ | with_reducible refine Within.drew ?_ | with_reducible refine Within.setCell ?_ (by first | (simp; done) | (simp; omega)) _ | with_reducible refine Within.trans ?_ (by assumption)))⟩
        case measure => simp [intOf]; omega
    · obtain rfl : k = l.length := by omega
      go_wp2
      go_ret
      exact ⟨ret_bool (by rw [← HA.out, List.take_of_length_le (Nat.le_refl _)]), hin⟩

set_option maxRecDepth 100000 in
set_option maxHeartbeats 600000 in
theorem Rsingles_any (A : Option Addr) (c : Nat) (l : List Nat) (hw : Words64 l) (hl : l.length ≤ 1152921504606846976) (w : World) (hr : SlAt w A (f64v l)) : Calls Tryd.prog 17 #[.slice A l.length c] w fun e w' => e = .returned (.bool (l.all isSD)) ∧ Within w w' := by
  have HW := Lib.hid hw; have HR := Lib.hid hr; clear hw hr
  go_enter Tryd.func17, Tryd.ntmps17
  go_wp2
  go_loopw [7] (fun iv wr => ∃ k : Nat, k ≤ l.length ∧ iv = .int .i64 (k : Int) ∧ (l.take k).all isSD = true ∧ Within w wr) (fun iv _ => l.length - (intOf iv).toNat)
  case atStart => exact ⟨0, Nat.zero_le _, rfl, rfl, Within.refl _⟩
  case round =>
    obtain ⟨k, hk, rfl, hall, hin⟩ := hrel
    have HA := Lib.hid hall; clear hall
    by_cases hlt : k < l.length
    · obtain ⟨ad, rfl, hblk, hc⟩ := (HR.out.of hin).at hlt
      obtain ⟨x, hx⟩ : ∃ x, x = l.getD k 0 := ⟨_, rfl⟩
      have hx2 : x < 18446744073709551616 := by rw [hx]; exact HW.out.at hlt
      rw [← hx] at hc
      have HX := Lib.hid hx; clear hx
      have hcv := fun (w : World) => conv_nar (P := Tryd.prog) (src := 75) (dst := 78) (by kernel_rfl) (by kernel_rfl) x hx2 w
      have hcw := fun (w w' : World) => conv_wide (P := Tryd.prog) (src := 78) (dst := 75) (by kernel_rfl) (by kernel_rfl) (narV x w) (narV_lt hx2 w) w'
      have SM : Hid (∀ w1 w2 w, Calls Tryd.prog 43 #[.float .f64 (wideV (narV x w1) w2), .float .f64 x] w fun e w' => e = .returned (.bool (isSD x)) ∧ w = w') := Lib.hid (fun w1 w2 w => by rw [← single_iff hx2 w1 w2]; exact Rsame_D _ x w)
      have hin2 : Within w (wideW (narV x wr) (narW x wr)) := hin.trans ((narW_in wr).trans (wideW_in _))
      have HX2 := Lib.hid hx2; clear hx2
      cases hf : isSD x
      · have hno : l.all isSD = false := all_false hlt (by rw [← HX.out]; exact hf)
        have HNO := Lib.hid hno
        rw [hf] at SM
        clear hno hf
        go_wp2_with fail
        refine (SM.out _ _ _).mono ?_; rintro e3 w3 ⟨rfl, rfl⟩
        go_wp2
        go_ret
        exact ⟨ret_bool HNO.out.symm, hin2⟩
      · have hnext : (l.take (k + 1)).all isSD = true := by rw [all_snoc hlt, HA.out, ← HX.out, hf]; rfl
        have HN := Lib.hid hnext
        rw [hf] at SM
        clear hnext hf
        go_wp2_with fail
        refine (SM.out _ _ _).mono ?_; rintro e3 w3 ⟨rfl, rfl⟩
        go_wp2
        go_roundw
        case rel => exact ⟨k + 1, hlt, by go_num, HN.out, hin2⟩
        case measure => simp [intOf]; omega
    · obtain rfl : k = l.length := by omega
      go_wp2
      go_ret
      exact ⟨ret_bool (by rw [← HA.out, List.take_of_length_le (Nat.le_refl _)]), hin⟩

end Go.Proofs.YtmpcnhiklpahnaaDoor
