/- The card of JournalRecords: whatever the input, the call returns true and the input reads as it did; the format holds what the program's text lays. -/
import Derived.Test.YtpmjlaiafgbjgaaDoorCards
import Derived.Test.YtpmjlaiafgbjgaaDoorTie
import Derived.WalkKit
import Derived.ProofKit
import Derived.OpenShut
import Derived.ShutString
import Derived.ChangeOld
import Derived.ChangeSlices
import Derived.Below
import Derived.Carry
import Derived.SizedLaws
import Derived.Deep.DeepHandedRow
import Derived.Deep.Strs
import Derived.Lib.LaidTab
import Derived.Lib.SmallJoins
import Derived.Deep.Slices
import Derived.Test.YtpmjlaiafgbjgaaDoorK2
import Derived.Test.YtpmjlaiafgbjgaaDoorK5
import Derived.Test.YtpmjlaiafgbjgaaDoorK7
set_option linter.unusedVariables false
set_option linter.unusedSimpArgs false
section
namespace Go.Proofs.YtpmjlaiafgbjgaaDoor
open Go.RowKit

theorem run_append_own_one {P : Program} (w : World) (base : Nat) (t ty e : TypeId) (i : TypeInfo) (z : Value) (size bytes : Nat) (ht : P.underlying t = some (.slice e)) (hi : P.info? e = some i) (hz : i.zero = some z)
    (hsize : i.size = size) (hby : i.bytes = bytes) (hzs : z.cells.size = size) (hsz : 0 < size) (v : Value) (n : Nat) (xs : List Value) (hown : w.ownsRow base e size v n xs)
    (a : Addr) (c : Nat) (news : List Value) (hl : news.length = 1 * size) (hnews : ∀ j u, news[j]? = some u → w.cell? (a.add j) = some u) (h1 : ∀ u ∈ news, u.oneCell' = true)
    (h63 : n + 1 ≤ maxLen) (hfit : (n + 1) * bytes ≤ 140737488355328 ∨ (0 < n ∧ Builtin.nextslicecap (n + 1) n * bytes ≤ 281474976710656)) (hbase : base ≤ w.heap.size) :
    ∃ v' w', (Builtin.append_ #[t, t] ty #[v, .slice (some a) 1 c]).run P w = .ok v' w' ∧ w'.ownsRow base e size v' (n + 1) (xs ++ news) ∧ w.grownBy w' v.ownBlock ∧ (v'.ownBlock = v.ownBlock ∨ v'.ownBlock = some w.heap.size) := by
  rcases hfit with hfit | ⟨hn, hfit⟩
  · obtain ⟨v', w', k1, k2, k3, _, k5⟩ := run_append_own_at (P := P) w base t ty e i z size bytes ht hi hz hsize hby hzs hsz v n xs hown a 1 c news hl hnews h1 h63 hfit hbase
    exact ⟨v', w', k1, k2, k3, k5⟩
  have hown' := hown
  rcases hown.2 with ⟨_, h0⟩ | ⟨g, cap, cur, rfl, hbg, hg, hnc, hcm, hcs, htake⟩
  · omega
  by_cases hroom : n + 1 ≤ cap
  · obtain ⟨w', k1, k2, k3⟩ := run_append_fits (P := P) w base t ty e i size ht hi hsize g n cap xs hown' a 1 c news hl hnews h1 hroom
    exact ⟨_, w', k1, k2, k3, .inl rfl⟩
  · obtain rfl : cap = n := by omega
    have holds : ∀ j u, xs[j]? = some u → w.cell? ((⟨g, 0, none⟩ : Addr).add j) = some u := hown'.cells (g := g) rfl
    have hr := run_append_grow (P := P) w t ty e i z ht hi hz ⟨g, 0, none⟩ cap cap xs (by rw [hsize]; exact hown.1) holds a 1 c news (by rw [hsize]; exact hl) hnews (by omega) (by unfold maxLen at h63; omega) (by rw [hby]; exact hfit)
    have hge := grownCap_ge w (cap + 1) cap e
    have hcm' := grownCap_le_maxLen w (cap + 1) cap e h63
    have hlen : (xs ++ news).length = (cap + 1) * size := by rw [List.length_append, hown.1, hl, Nat.add_mul]
    refine ⟨_, _, hr, ⟨hlen, .inr ⟨w.heap.size, _, _, rfl, hbase, heap_alloc_new w.drew _, hge, hcm', ?_, ?_⟩⟩, ⟨rfl, rfl, rfl, by simp, fun k hk _ => heap_alloc_old w.drew _ hk⟩, .inr rfl⟩
    · simp only [Array.size_append, List.size_toArray, size_zeroCells, hzs, hown.1, hl, ← Nat.add_mul]
      congr 1
      omega
    · simp only [Array.toList_append, List.append_assoc]
      rw [← List.append_assoc, ← hlen]
      exact List.take_left
theorem next_fits {n : Nat} (h : 256 ≤ n) (h2 : n ≤ 4398046511104) : Builtin.nextslicecap (n + 1) n * 40 ≤ 281474976710656 := by
  unfold Builtin.nextslicecap
  rw [if_neg (by omega), if_neg (by omega), growBy_four]
  rw [if_neg (by omega), if_pos (by omega)]
  omega
/-- one reading more on a row of the call's own, for as many readings as there may be records -/
theorem run_app_rdb (w : World) (base : Nat) (v : Value) (rs : List Rd) (r : Rd) (u : Value) (hown : RdsO w base v rs) (hu : OwnF w base u r.vals) (hne : u.ownBlock = none ∨ u.ownBlock ≠ v.ownBlock) (hl : rs.length ≤ 4398046511104) (hbase : base ≤ w.heap.size) :
    ∃ v' w', (Builtin.append_ #[72, 72] 72 #[v, .slice (some ⟨w.heap.size, 0, none⟩) 1 1]).run Tryd.prog (w.alloc (.cells #[.int .i64 (r.sensor : Int), .int .u32 (r.seq : Int), .int .u32 (r.stamp : Int), u] 67)) = .ok v' w' ∧ RdsO w' base v' (rs ++ [r]) ∧ w.grownBy w' v.ownBlock ∧ (∀ j, v.ownBlock = some j → base ≤ j) := by
  by_cases hsm : (rs.length + 1) * 40 ≤ 140737488355328
  · exact run_app_rd w base v rs r u hown hu hne hsm hbase
  obtain ⟨ps, rfl, hrow, hps⟩ := hown
  rw [List.length_map] at hl hsm
  obtain ⟨i0, hi0, hz0, hz1, hz2⟩ := info_parts Tryd.infoRd
  have hin := (Within.refl w).alloc (.cells #[.int .i64 (r.sensor : Int), .int .u32 (r.seq : Int), .int .u32 (r.stamp : Int), u] 67)
  have hu1 : u.oneCell' = true := by obtain ⟨A, c, rfl, _⟩ := hu.form; rfl
  have hrow' := hrow.kept (within_grown hin) (by cases hv : v.ownBlock <;> simp)
  have hcell : ∀ (j : Nat) x, (rdC r u)[j]? = some x → (w.alloc (.cells #[.int .i64 (r.sensor : Int), .int .u32 (r.seq : Int), .int .u32 (r.stamp : Int), u] 67)).cell? ((⟨w.heap.size, 0, none⟩ : Addr).add j) = some x := fun j x hx => by
    rw [add_at, World.cell?_alloc_at _ _ _ _ rfl]
    unfold rdC at hx
    match j, hx with
    | 0, hx => exact hx
    | 1, hx => exact hx
    | 2, hx => exact hx
    | 3, hx => exact hx
    | j + 4, hx => simp at hx
  obtain ⟨v', w', h1, h2, h3, h5⟩ := run_append_own_one (P := Tryd.prog) (w := w.alloc (.cells #[.int .i64 (r.sensor : Int), .int .u32 (r.seq : Int), .int .u32 (r.stamp : Int), u] 67)) base 72 72 67 i0 (.agg #[.int .i64 0, .int .u32 0, .int .u32 0, .slice none 0 0]) 4 40 (by kernel_rfl) hi0 hz0 hz1 hz2 rfl (by decide) v ps.length (cellsR ps) hrow' ⟨w.heap.size, 0, none⟩ 1 (rdC r u) rfl hcell (rdC_one r hu1)
    (by unfold maxLen; omega) (.inr ⟨by omega, next_fits (by omega) hl⟩) (by simp; omega)
  have hlt := fun j hj => (hrow.lt j hj)
  refine ⟨v', w', h1, ⟨ps ++ [(r, u)], by rw [List.map_append]; rfl, ?_, ?_⟩, ?_, fun j hj => (hlt j hj).1⟩
  · have e : cellsR (ps ++ [(r, u)]) = cellsR ps ++ rdC r u := by unfold cellsR; rw [List.flatMap_append]; simp
    rw [List.length_append, e]; exact h2
  · have key : ∀ x xs, OwnF w base x xs → (x.ownBlock = none ∨ x.ownBlock ≠ v.ownBlock) → OwnF w' base x xs ∧ (x.ownBlock = none ∨ x.ownBlock ≠ v'.ownBlock) := fun x xs h hn => by
      refine ⟨(h.of hin).kept h3 hn, ?_⟩
      rcases hn with hn | hn
      · exact .inl hn
      · rcases h5 with h5 | h5
        · exact .inr (by rw [h5]; exact hn)
        · cases hx : x.ownBlock with
          | none => exact .inl rfl
          | some j =>
            refine .inr (fun e => ?_)
            rw [h5] at e
            have := (h.lt j hx).2
            have := Option.some.inj e
            simp at this
            omega
    intro p hp
    rcases List.mem_append.1 hp with h | h
    · exact key _ _ (hps p h).1 (hps p h).2
    · rw [List.mem_singleton] at h; rw [h]; exact key _ _ hu hne
  · exact ⟨h3.os, h3.tape, h3.output, Nat.le_trans (by simp) h3.size, fun k hk hn => (h3.block k (by simp; omega) hn).trans (Below.heap_alloc _ _ _ hk)⟩
end Go.Proofs.YtpmjlaiafgbjgaaDoor
end

section
namespace Go.Proofs.YtpmjlaiafgbjgaaDoor
open Go.RowKit

/-- what Reading tells -/
def ReadingP (s : Int) (q t : Nat) (l : List Nat) (w : World) (e : Ending) (w' : World) : Prop := ∃ (k : Int) (v : Value), e = .returned (.tuple #[.agg #[.int .i64 k, v], .int .i64 (checkV pf s l)]) ∧ k = (if checkV pf s l = 0 then 1 else 0) ∧ OwnB w' w.heap.size v (packL s q t l) ∧ Within w w'
theorem packL_no {s : Int} {q t : Nat} {l : List Nat} (h : checkV pf s l ≠ 0) : packL s q t l = [] := if_neg h
/-- the readings among records -/
def isRd (r : IRec) : Bool := decide (r.1 = 1 ∧ checkR pf r.1 r.2 = 0)
def readingsV (rs : List IRec) : List Rd := (rs.filter isRd).map fun r => rdOf r.2
theorem readingsV_len (rs : List IRec) : (readingsV rs).length ≤ rs.length := by unfold readingsV; rw [List.length_map]; exact List.length_filter_le _ _
theorem readingsV_snoc (rs : List IRec) (r : IRec) : readingsV (rs ++ [r]) = if isRd r = true then readingsV rs ++ [rdOf r.2] else readingsV rs := by
  unfold readingsV
  rw [List.filter_append, List.map_append]
  by_cases h : isRd r = true
  · rw [if_pos h, List.filter_cons_of_pos h]; rfl
  · rw [if_neg h, List.filter_cons_of_neg (by simpa using h)]; simp
theorem isRd_unpack {r : IRec} (h : isRd r = true) : unpackE pf r.2 = 0 := by
  unfold isRd at h
  obtain ⟨h1, h2⟩ := of_decide_eq_true h
  rw [h1] at h2
  by_cases hl : 1048576 < r.2.length
  · rw [checkR_long (by decide) hl] at h2; cases h2
  · rw [checkR_read hl] at h2
    by_cases h0 : unpackE pf r.2 = 0
    · exact h0
    · rw [if_neg h0] at h2; cases h2
/-- where a record of a list lies, in a walk's own words -/
theorem RecAt.cells {w : World} {D : Nat → Prop} {A : Option Addr} {ls : List IRec} (h : RecAt w D A ls) {i : Nat} {r : IRec} (hi : ls[i]? = some r) : ∃ ad Dv cv, A = some ad ∧ ad.block < w.heap.size ∧ w.cell? (ad.add (i * 2)) = some (.int .i64 r.1) ∧ w.cell? ⟨(ad.add (i * 2)).block, (ad.add (i * 2)).off + 1, none⟩ = some (.slice Dv r.2.length cv) ∧ r.2.length ≤ cv ∧ SlAt w Dv (u8v r.2) ∧ Bytes r.2 := by
  obtain ⟨ad, Dv, cv, h1, h2, _, h4, h5, h6, h7, _, h9⟩ := h i r hi
  refine ⟨ad, Dv, cv, h1, h2, h4, ?_, h6, h7, h9⟩
  rw [← add_add, add_plain' _ (by decide)] at h5
  exact h5
theorem rds_take {rs : List IRec} {i : Nat} {r : IRec} (h : rs[i]? = some r) : rs.take i ++ [r] = rs.take (i + 1) := by
  obtain ⟨hi, rfl⟩ := List.getElem?_eq_some_iff.1 h
  rw [List.take_add_one, List.getElem?_eq_getElem hi]; rfl

set_option maxRecDepth 100000 in
set_option maxHeartbeats 1000000 in
theorem Reading_any (s : Int) (q t : Nat) (A : Option Addr) (c : Nat) (l : List Nat) (hq : q < 4294967296) (ht : t < 4294967296) (hw : Words64 l) (hl : l.length ≤ 1152921504606846976) (w : World) (hT : FmS w) (hr : SlAt w A (f64v l)) : Calls Tryd.prog 29 #[.agg #[.int .i64 s, .int .u32 (q : Int), .int .u32 (t : Int), .slice A l.length c]] w (ReadingP s q t l w) := by
  obtain ⟨W0, hW0⟩ : ∃ W, W = (w.alloc (.cells #[.int .i64 s, .int .u32 (q : Int), .int .u32 (t : Int), .slice A l.length c] 67)).alloc (.cells #[.int .i64 0, .slice none 0 0] 50) := ⟨_, rfl⟩
  have hI : Within w W0 := by rw [hW0]; exact ((Within.refl w).alloc _).alloc _
  have hs0 : W0.heap.size = w.heap.size + 2 := by rw [hW0]; simp
  have k0 : W0.cell? ⟨w.heap.size + 1, 0, none⟩ = some (.int .i64 0) := by rw [hW0]; simp
  have k1 : W0.cell? ⟨w.heap.size + 1, 1, none⟩ = some (.slice none 0 0) := by rw [hW0]; simp
  have kf0 : W0.frozen? ⟨w.heap.size + 1, 0, none⟩ = false := by rw [hW0]; simp
  have kf1 : W0.frozen? ⟨w.heap.size + 1, 1, none⟩ = false := by rw [hW0]; simp
  have ks : w.heap.size + 1 < W0.heap.size := by omega
  have PA := Lib.hid (Pack_any s q t A c l hq ht hw hl W0 (hT.of hI) (hr.of hI))
  obtain ⟨ck, hck⟩ : ∃ x, checkV pf s l = x := ⟨_, rfl⟩
  rw [hck] at PA
  obtain ⟨pl, hpl⟩ : ∃ x, packL s q t l = x := ⟨_, rfl⟩
  rw [hpl] at PA
  obtain ⟨n, hn⟩ : ∃ n, l.length = n := ⟨_, rfl⟩
  rw [hn] at hW0 PA ⊢
  have HCK := Lib.hid hck; have HPL := Lib.hid hpl; have HI := Lib.hid hI; have HS0 := Lib.hid hs0; clear hck hpl hn hI hT hr hw hl
  go_enter Tryd.func29, Tryd.ntmps29
  go_wp2_with fail
  rw [← hW0]
  clear hW0
  refine PA.out.mono ?_; rintro e1 w1 ⟨v1, rfl, hO1, h1⟩
  clear PA
  have k0 := (h1.cells _ _ ks).trans k0
  have k1 := (h1.cells _ _ ks).trans k1
  have kf0 := (h1.frozens _ _ ks).trans kf0
  have kf1 := (h1.frozens _ _ ks).trans kf1
  have ks := Nat.lt_of_lt_of_le ks h1.size
  obtain ⟨A1, c1, rfl, _, _, _⟩ := hO1.form
  obtain ⟨m, hm⟩ : ∃ m, pl.length = m := ⟨_, rfl⟩
  rw [hm] at hO1 ⊢
  clear hm
  have hin := HI.out.trans h1
  have HO1 := Lib.hid hO1; have HIN := Lib.hid hin; clear h1 hO1 hin
  by_cases h0 : ck = 0
  · subst h0
    go_wp2
    have hK : But (w.heap.size + 1) w1 ((w1.setCell ⟨w.heap.size + 1, 0, none⟩ (.int .i64 1)).setCell ⟨w.heap.size + 1, 1, none⟩ (.slice A1 m c1)) := ((But.refl (w.heap.size + 1) w1).set (p := ⟨w.heap.size + 1, 0, none⟩) (.inl rfl) _).set (p := ⟨w.heap.size + 1, 1, none⟩) (.inl rfl) _
    have hI9 : Within w ((w1.setCell ⟨w.heap.size + 1, 0, none⟩ (.int .i64 1)).setCell ⟨w.heap.size + 1, 1, none⟩ (.slice A1 m c1)) := (HIN.out.setCell (Nat.le_succ _) _).setCell (Nat.le_succ _) _
    have hO9 := HO1.out.but hK (by have := HS0.out; omega)
    refine bodyPost_ret (v := .tuple #[.agg #[.int .i64 1, .slice A1 m c1], .int .i64 0]) (by simp [results, Tryd.results29, go_sem, k0, k1, kf0, kf1, ks]) rfl ⟨1, _, by rw [HCK.out], by rw [HCK.out, if_pos rfl], by rw [HPL.out]; exact hO9.less (by have := HS0.out; omega), hI9⟩
  · have v1 : (ck != 0) = true := bne_iff_ne.2 h0
    go_wp2
    have hI9 : Within w ((w1.setCell ⟨w.heap.size + 1, 0, none⟩ (.int .i64 0)).setCell ⟨w.heap.size + 1, 1, none⟩ (.slice none 0 0)) := (HIN.out.setCell (Nat.le_succ _) _).setCell (Nat.le_succ _) _
    refine bodyPost_ret (v := .tuple #[.agg #[.int .i64 0, .slice none 0 0], .int .i64 ck]) (by simp [results, Tryd.results29, go_sem, k0, k1, kf0, kf1, ks]) rfl ⟨0, _, by rw [HCK.out], by rw [HCK.out, if_neg h0], by rw [packL_no (by rw [HCK.out]; exact h0)]; exact OwnB.nil_ _ _, hI9⟩

theorem rds_lt {w : World} {base : Nat} {v : Value} {rs : List Rd} (h : RdsO w base v rs) : ∀ j, v.ownBlock = some j → j < w.heap.size := by
  obtain ⟨ps, _, h2, _⟩ := h
  exact fun j hj => (h2.lt j hj).2

set_option maxRecDepth 100000 in
set_option maxHeartbeats 1000000 in
theorem Readings_any (D : Nat → Prop) (A : Option Addr) (c : Nat) (rs : List IRec) (hle : rs.length ≤ 4398046511104) (hsz : ∀ r ∈ rs, r.2.length ≤ 1152921504606846976) (w : World) (hT : FmS w) (hr : RecAt w D A rs) : Calls Tryd.prog 33 #[.slice A rs.length c] w fun e w' => ∃ v, e = .returned v ∧ RdsO w' w.heap.size v (readingsV rs) ∧ Within w w' := by
  obtain ⟨n, hn⟩ : ∃ n, rs.length = n := ⟨_, rfl⟩
  have HN := Lib.hid hn
  rw [hn] at hle ⊢
  clear hn
  have HT := Lib.hid hT
  have HR := Lib.hid hr; clear hr hT
  go_enter Tryd.func33, Tryd.ntmps33
  go_wp2
  go_loopw [3, 10] (fun ov iv wr => ∃ i : Nat, i ≤ n ∧ iv = .int .i64 (i : Int) ∧ RdsO wr w.heap.size ov (readingsV (rs.take i)) ∧ Within w wr) (fun _ iv _ => n - (intOf iv).toNat)
  case atStart => exact ⟨0, by omega, rfl, RdsO.nil_ _ _, Within.refl _⟩
  case round =>
    obtain ⟨i, hi, rfl, hO, hin⟩ := hrel
    by_cases hlt : i < n
    · have hlt' : i < rs.length := by rw [HN.out]; exact hlt
      obtain ⟨r, hr⟩ : ∃ r, rs[i]? = some r := ⟨_, List.getElem?_eq_getElem hlt'⟩
      obtain ⟨ad, Dv, cv, rfl, hb, c0, c1, hcv, hs1, hby⟩ := (HR.out.of hin).cells hr
      have b1 : (i : Int) < (n : Int) := by omega
      have hsn := readingsV_snoc (rs.take i) r
      rw [rds_take hr] at hsn
      have hrl := readingsV_len (rs.take i)
      have hrl2 : (rs.take i).length ≤ i := by rw [List.length_take]; omega
      have hun : isRd r = true → unpackE pf r.2 = 0 := isRd_unpack
      have hid : isRd r = decide (r.1 = 1 ∧ checkR pf r.1 r.2 = 0) := rfl
      obtain ⟨k, d⟩ := r
      simp only at c0 c1 hcv hs1 hby hsn hun hid
      obtain ⟨nd, hnd⟩ : ∃ n, d.length = n := ⟨_, rfl⟩
      have hdl : nd ≤ 1152921504606846976 := by rw [← hnd]; exact hsz _ (List.mem_of_getElem? hr)
      have JC := Lib.hid (fun W (h : Within wr W) => jcheck_any k Dv cv d hby hcv (by rw [hnd]; exact hdl) W (HT.out.of (hin.trans h)) (hs1.of h))
      have UN := Lib.hid (fun W (h : Within wr W) => Unpack_any Dv cv d hby (by rw [hnd]; exact hdl) hcv W (HT.out.of (hin.trans h)) (hs1.of h))
      rw [hnd] at c1 hcv JC UN
      obtain ⟨ck, hck⟩ : ∃ x, checkR pf k d = x := ⟨_, rfl⟩
      rw [hck] at JC hid
      obtain ⟨er, her⟩ : ∃ x, unpackE pf d = x := ⟨_, rfl⟩
      rw [her] at UN hun
      obtain ⟨rd, hrd⟩ : ∃ x, rdOf d = x := ⟨_, rfl⟩
      rw [hrd] at UN hsn
      have HSN := Lib.hid hsn; have HIN := Lib.hid hin; have HO := Lib.hid hO; have HUN := Lib.hid hun; have HID := Lib.hid hid; have HRL := Lib.hid (Nat.le_trans hrl hrl2); have HB := Lib.hid hb; clear hsn hin hO hr hby hs1 hck her hrd hun hid hrl hrl2 hnd hlt' hdl hcv
      obtain ⟨Ao, co, rfl, _, _⟩ := HO.out.form
      by_cases hk : k = 1
      · subst hk
        have e1 : ((1 : Int) != 1) = false := by decide
        obtain ⟨W2, hW2⟩ : ∃ W, W = wr.alloc (.cells #[.int .i64 1, .slice Dv nd cv] 50) := ⟨_, rfl⟩
        have i2 : Within wr W2 := by rw [hW2]; exact (Within.refl wr).alloc _
        have z0 : W2.cell? ⟨wr.heap.size, 0, none⟩ = some (.int .i64 1) := by rw [hW2]; simp
        have z1 : W2.cell? ⟨wr.heap.size, 1, none⟩ = some (.slice Dv nd cv) := by rw [hW2]; simp
        have zs : wr.heap.size < W2.heap.size := by rw [hW2]; simp
        have E2 := Lib.hid hW2; have I2 := Lib.hid i2; clear hW2 i2
        go_wp2_with fail
        rw [← E2.out]
        refine (JC.out W2 I2.out).mono ?_; rintro e3 w3 ⟨rfl, h3⟩
        have z0 := (h3.cells _ _ zs).trans z0
        have z1 := (h3.cells _ _ zs).trans z1
        have zs := Nat.lt_of_lt_of_le zs h3.size
        have I3 := Lib.hid (I2.out.trans h3)
        clear h3
        by_cases h0 : ck = 0
        · subst h0
          obtain rfl : er = 0 := HUN.out (by rw [HID.out]; simp)
          go_wp2_with fail
          refine (UN.out w3 I3.out).mono ?_; rintro e4 w4 ⟨v4, rfl, hO4, h4⟩
          obtain ⟨A4, c4, rfl, _, _, _⟩ := hO4.form
          obtain ⟨m4, hm4⟩ : ∃ m, rd.vals.length = m := ⟨_, rfl⟩
          rw [hm4] at hO4 ⊢
          clear hm4
          obtain ⟨W5, hW5⟩ : ∃ W, W = w4.alloc (.cells #[.int .i64 (rd.sensor : Int), .int .u32 (rd.seq : Int), .int .u32 (rd.stamp : Int), .slice A4 m4 c4] 67) := ⟨_, rfl⟩
          have i5 : Within w4 W5 := by rw [hW5]; exact (Within.refl w4).alloc _
          have hX5 : Within wr W5 := I3.out.trans (h4.trans i5)
          have hne : (Value.slice A4 m4 c4).ownBlock = none ∨ (Value.slice A4 m4 c4).ownBlock ≠ (Value.slice Ao (readingsV (rs.take i)).length co).ownBlock := by
            cases ho : (Value.slice A4 m4 c4).ownBlock with
            | none => exact .inl rfl
            | some j => exact .inr (fun e => by have h1 := (hO4.lt j ho).1; have h2 := (rds_lt HO.out j e.symm); have := I3.out.size; omega)
          obtain ⟨v6, w6, hrun6, hO6, hg6, hb6⟩ := run_app_rdb W5 w.heap.size (.slice Ao (readingsV (rs.take i)).length co) (readingsV (rs.take i)) rd (.slice A4 m4 c4) (HO.out.of hX5) ((hO4.less (Nat.le_trans HIN.out.size I3.out.size)).of i5) hne (by have := HRL.out; omega) (HIN.out.trans hX5).size
          have hX6 : Within w w6 := Below.grown (HIN.out.trans hX5) hg6 (HIN.out.trans hX5).size hb6
          rw [show readingsV (rs.take i) ++ [rd] = readingsV (rs.take (i + 1)) by rw [HSN.out, if_pos (by rw [HID.out]; simp)]] at hO6
          obtain ⟨A6, c6, rfl, _, _⟩ := hO6.form
          have x0 : W5.cell? ⟨w4.heap.size, 0, none⟩ = some (.int .i64 (rd.sensor : Int)) := by rw [hW5]; simp
          have x1 : W5.cell? ⟨w4.heap.size, 1, none⟩ = some (.int .u32 (rd.seq : Int)) := by rw [hW5]; simp
          have x2 : W5.cell? ⟨w4.heap.size, 2, none⟩ = some (.int .u32 (rd.stamp : Int)) := by rw [hW5]; simp
          have x3 : W5.cell? ⟨w4.heap.size, 3, none⟩ = some (.slice A4 m4 c4) := by rw [hW5]; simp
          have xs : w4.heap.size < W5.heap.size := by rw [hW5]; simp
          obtain ⟨mo, hmo⟩ : ∃ m, (readingsV (rs.take i)).length = m := ⟨_, rfl⟩
          rw [hmo] at hrun6 ⊢
          clear hmo hne
          rw [hW5] at hrun6
          simp only [World.size_alloc] at hrun6
          have RUN6 := Lib.hid hrun6; have HO6 := Lib.hid hO6; have HX6 := Lib.hid hX6; have E5 := Lib.hid hW5; clear hrun6 hO6 hX6 hg6 hb6 hW5 h4 i5 hX5 hO4
          go_wp2_with (at_builtin; refine wpList_append_run rfl (.tmp 30) (.tmp 32) 72 rfl _ _ rfl rfl RUN6.out ?_)
          go_roundw
          case rel => exact ⟨i + 1, hlt, by go_num, HO6.out, HX6.out⟩
          case measure => simp [intOf]; omega
        · have v1 : (ck != 0) = true := bne_iff_ne.2 h0
          have hno : ¬ decide ((1 : Int) = 1 ∧ ck = 0) = true := fun h => h0 (of_decide_eq_true h).2
          have HNO := Lib.hid hno; clear hno
          go_wp2
          go_roundw
          case rel => exact ⟨i + 1, hlt, by go_num, by rw [HSN.out, if_neg (by rw [HID.out]; exact HNO.out)]; exact HO.out.of I3.out, HIN.out.trans I3.out⟩
          case measure => simp [intOf]; omega
      · have e1 : (k != 1) = true := bne_iff_ne.2 hk
        have hno : ¬ decide (k = 1 ∧ ck = 0) = true := fun h => hk (of_decide_eq_true h).1
        have HNO := Lib.hid hno; clear hno hk
        go_wp2
        go_roundw
        case rel => exact ⟨i + 1, hlt, by go_num, by rw [HSN.out, if_neg (by rw [HID.out]; exact HNO.out)]; exact HO.out.of ((Within.refl wr).alloc _), HIN.out.alloc _⟩
        case measure => simp [intOf]; omega
    · obtain rfl : i = n := by omega
      rw [← HN.out, List.take_length] at hO
      obtain ⟨Ao, co, rfl, _, _⟩ := hO.form
      have HO := Lib.hid hO; have HIN := Lib.hid hin; clear hO hin
      go_wp2
      go_ret
      exact ⟨_, rfl, HO.out, HIN.out⟩

set_option maxRecDepth 100000 in
set_option maxHeartbeats 1000000 in
theorem Rreadings_any (D : Nat → Prop) (A : Option Addr) (c : Nat) (rs : List IRec) (hle : rs.length ≤ 4398046511104) (hsz : ∀ r ∈ rs, r.2.length ≤ 1152921504606846976) (w : World) (hr : RecAt w D A rs) : Calls Tryd.prog 34 #[.slice A rs.length c] w fun e w' => ∃ v, e = .returned v ∧ RdsO w' w.heap.size v (readingsV rs) ∧ Within w w' := by
  obtain ⟨n, hn⟩ : ∃ n, rs.length = n := ⟨_, rfl⟩
  have HN := Lib.hid hn
  rw [hn] at hle ⊢
  clear hn
  have HR := Lib.hid hr; clear hr
  go_enter Tryd.func34, Tryd.ntmps34
  go_wp2
  go_loopw [3, 4] (fun ov iv wr => ∃ i : Nat, i ≤ n ∧ iv = .int .i64 (i : Int) ∧ RdsO wr w.heap.size ov (readingsV (rs.take i)) ∧ Within w wr) (fun _ iv _ => n - (intOf iv).toNat)
  case atStart => exact ⟨0, by omega, rfl, RdsO.nil_ _ _, Within.refl _⟩
  case round =>
    obtain ⟨i, hi, rfl, hO, hin⟩ := hrel
    by_cases hlt : i < n
    · have hlt' : i < rs.length := by rw [HN.out]; exact hlt
      obtain ⟨r, hr⟩ : ∃ r, rs[i]? = some r := ⟨_, List.getElem?_eq_getElem hlt'⟩
      obtain ⟨ad, Dv, cv, rfl, hb, c0, c1, hcv, hs1, hby⟩ := (HR.out.of hin).cells hr
      have b1 : (i : Int) < (n : Int) := by omega
      have hsn := readingsV_snoc (rs.take i) r
      rw [rds_take hr] at hsn
      have hrl := readingsV_len (rs.take i)
      have hrl2 : (rs.take i).length ≤ i := by rw [List.length_take]; omega
      have hun : isRd r = true → unpackE pf r.2 = 0 := isRd_unpack
      have hid : isRd r = decide (r.1 = 1 ∧ checkR pf r.1 r.2 = 0) := rfl
      obtain ⟨k, d⟩ := r
      simp only at c0 c1 hcv hs1 hby hsn hun hid
      obtain ⟨nd, hnd⟩ : ∃ n, d.length = n := ⟨_, rfl⟩
      have hdl : nd ≤ 1152921504606846976 := by rw [← hnd]; exact hsz _ (List.mem_of_getElem? hr)
      have JC := Lib.hid (fun W (h : Within wr W) => Rjcheck_any k Dv cv d hby hcv (by rw [hnd]; exact hdl) W (hs1.of h))
      have UN := Lib.hid (fun W (h : Within wr W) => Runpack_any Dv cv d hby (by rw [hnd]; exact hdl) hcv W (hs1.of h))
      rw [hnd] at c1 hcv JC UN
      obtain ⟨ck, hck⟩ : ∃ x, checkR pf k d = x := ⟨_, rfl⟩
      rw [hck] at JC hid
      obtain ⟨er, her⟩ : ∃ x, unpackE pf d = x := ⟨_, rfl⟩
      rw [her] at UN hun
      obtain ⟨rd, hrd⟩ : ∃ x, rdOf d = x := ⟨_, rfl⟩
      rw [hrd] at UN hsn
      have HSN := Lib.hid hsn; have HIN := Lib.hid hin; have HO := Lib.hid hO; have HUN := Lib.hid hun; have HID := Lib.hid hid; have HRL := Lib.hid (Nat.le_trans hrl hrl2); have HB := Lib.hid hb; clear hsn hin hO hr hby hs1 hck her hrd hun hid hrl hrl2 hnd hlt' hdl hcv
      obtain ⟨Ao, co, rfl, _, _⟩ := HO.out.form
      by_cases hk : k = 1
      · subst hk
        have I0 := HB.out
        go_wp2_with fail
        refine (JC.out wr (Within.refl wr)).mono ?_; rintro e3 w3 ⟨rfl, h3⟩
        have c0 := (h3.cell (p := ad.add (i * 2)) (by rw [add_block]; exact I0)).trans c0
        have c1 := (h3.cell (p := ⟨(ad.add (i * 2)).block, (ad.add (i * 2)).off + 1, none⟩) (by rw [add_block]; exact I0)).trans c1
        have hb3 : ad.block < w3.heap.size := Nat.lt_of_lt_of_le I0 h3.size
        have I3 := Lib.hid h3
        clear h3
        by_cases h0 : ck = 0
        · subst h0
          obtain rfl : er = 0 := HUN.out (by rw [HID.out]; simp)
          go_wp2_with fail
          refine (UN.out w3 I3.out).mono ?_; rintro e4 w4 ⟨v4, rfl, hO4, h4⟩
          obtain ⟨A4, c4, rfl, _, _, _⟩ := hO4.form
          obtain ⟨m4, hm4⟩ : ∃ m, rd.vals.length = m := ⟨_, rfl⟩
          rw [hm4] at hO4 ⊢
          clear hm4
          obtain ⟨W5, hW5⟩ : ∃ W, W = w4.alloc (.cells #[.int .i64 (rd.sensor : Int), .int .u32 (rd.seq : Int), .int .u32 (rd.stamp : Int), .slice A4 m4 c4] 67) := ⟨_, rfl⟩
          have i5 : Within w4 W5 := by rw [hW5]; exact (Within.refl w4).alloc _
          have hX5 : Within wr W5 := I3.out.trans (h4.trans i5)
          have hne : (Value.slice A4 m4 c4).ownBlock = none ∨ (Value.slice A4 m4 c4).ownBlock ≠ (Value.slice Ao (readingsV (rs.take i)).length co).ownBlock := by
            cases ho : (Value.slice A4 m4 c4).ownBlock with
            | none => exact .inl rfl
            | some j => exact .inr (fun e => by have h1 := (hO4.lt j ho).1; have h2 := (rds_lt HO.out j e.symm); have := I3.out.size; omega)
          obtain ⟨v6, w6, hrun6, hO6, hg6, hb6⟩ := run_app_rdb W5 w.heap.size (.slice Ao (readingsV (rs.take i)).length co) (readingsV (rs.take i)) rd (.slice A4 m4 c4) (HO.out.of hX5) ((hO4.less (Nat.le_trans HIN.out.size I3.out.size)).of i5) hne (by have := HRL.out; omega) (HIN.out.trans hX5).size
          have hX6 : Within w w6 := Below.grown (HIN.out.trans hX5) hg6 (HIN.out.trans hX5).size hb6
          rw [show readingsV (rs.take i) ++ [rd] = readingsV (rs.take (i + 1)) by rw [HSN.out, if_pos (by rw [HID.out]; simp)]] at hO6
          obtain ⟨A6, c6, rfl, _, _⟩ := hO6.form
          have x0 : W5.cell? ⟨w4.heap.size, 0, none⟩ = some (.int .i64 (rd.sensor : Int)) := by rw [hW5]; simp
          have x1 : W5.cell? ⟨w4.heap.size, 1, none⟩ = some (.int .u32 (rd.seq : Int)) := by rw [hW5]; simp
          have x2 : W5.cell? ⟨w4.heap.size, 2, none⟩ = some (.int .u32 (rd.stamp : Int)) := by rw [hW5]; simp
          have x3 : W5.cell? ⟨w4.heap.size, 3, none⟩ = some (.slice A4 m4 c4) := by rw [hW5]; simp
          have xs : w4.heap.size < W5.heap.size := by rw [hW5]; simp
          obtain ⟨mo, hmo⟩ : ∃ m, (readingsV (rs.take i)).length = m := ⟨_, rfl⟩
          rw [hmo] at hrun6 ⊢
          clear hmo hne
          rw [hW5] at hrun6
          simp only [World.size_alloc] at hrun6
          have RUN6 := Lib.hid hrun6; have HO6 := Lib.hid hO6; have HX6 := Lib.hid hX6; have E5 := Lib.hid hW5; clear hrun6 hO6 hX6 hg6 hb6 hW5 h4 i5 hX5 hO4
          go_wp2_with (at_builtin; refine wpList_append_run rfl (.tmp 36) (.tmp 38) 72 rfl _ _ rfl rfl RUN6.out ?_)
          go_roundw
          case rel => exact ⟨i + 1, hlt, by go_num, HO6.out, HX6.out⟩
          case measure => simp [intOf]; omega
        · have v1 : (ck == 0) = false := beq_eq_false_iff_ne.2 h0
          have hno : ¬ decide ((1 : Int) = 1 ∧ ck = 0) = true := fun h => h0 (of_decide_eq_true h).2
          have HNO := Lib.hid hno; clear hno
          go_wp2
          go_roundw
          case rel => exact ⟨i + 1, hlt, by go_num, by rw [HSN.out, if_neg (by rw [HID.out]; exact HNO.out)]; exact HO.out.of I3.out, HIN.out.trans I3.out⟩
          case measure => simp [intOf]; omega
      · have e1 : (k == 1) = false := beq_eq_false_iff_ne.2 hk
        have hno : ¬ decide (k = 1 ∧ ck = 0) = true := fun h => hk (of_decide_eq_true h).1
        have HNO := Lib.hid hno; clear hno hk
        go_wp2
        go_roundw
        case rel => exact ⟨i + 1, hlt, by go_num, by rw [HSN.out, if_neg (by rw [HID.out]; exact HNO.out)]; exact HO.out.of (Within.refl wr), HIN.out.trans (Within.refl wr)⟩
        case measure => simp [intOf]; omega
    · obtain rfl : i = n := by omega
      rw [← HN.out, List.take_length] at hO
      obtain ⟨Ao, co, rfl, _, _⟩ := hO.form
      have HO := Lib.hid hO; have HIN := Lib.hid hin; clear hO hin
      go_wp2
      go_ret
      exact ⟨_, rfl, HO.out, HIN.out⟩

end Go.Proofs.YtpmjlaiafgbjgaaDoor
end

section
namespace Go.Proofs.YtpmjlaiafgbjgaaDoor
open Go.RowKit

set_option maxRecDepth 100000 in
set_option maxHeartbeats 1000000 in
theorem copied_big (k : Int) (A : Option Addr) (c : Nat) (l : List Nat) (hl : l.length ≤ 140737488355328) (w : World) (hr : SlAt w A (u8v l)) : Calls Tryd.prog 25 #[.agg #[.int .i64 k, .slice A l.length c]] w fun e w' => ∃ v, e = .returned (.agg #[.int .i64 k, v]) ∧ OwnB w' w.heap.size v l ∧ Within w w' := by
  obtain ⟨W0, hW0⟩ : ∃ W0, W0 = (w.alloc (.cells #[.int .i64 k, .slice A l.length c] 50)).alloc (.cells #[.int .i64 0, .slice none 0 0] 50) := ⟨_, rfl⟩
  have k0 : W0.cell? ⟨w.heap.size, 0, none⟩ = some (.int .i64 k) := by rw [hW0]; simp
  have k1 : W0.cell? ⟨w.heap.size, 1, none⟩ = some (.slice A l.length c) := by rw [hW0]; simp
  have z0 : W0.cell? ⟨w.heap.size + 1, 0, none⟩ = some (.int .i64 0) := by rw [hW0]; simp
  have z1 : W0.cell? ⟨w.heap.size + 1, 1, none⟩ = some (.slice none 0 0) := by rw [hW0]; simp
  have zf : ∀ o, W0.frozen? ⟨w.heap.size + 1, o, none⟩ = false := fun o => by rw [hW0, show w.heap.size + 1 = (w.alloc (.cells #[.int .i64 k, .slice A l.length c] 50)).heap.size by simp]; exact World.frozen?_alloc_new _ _ _ _
  have kb : w.heap.size < W0.heap.size := by rw [hW0]; simp; omega
  have zb : w.heap.size + 1 < W0.heap.size := by rw [hW0]; simp
  have hww : Within w W0 := by rw [hW0]; exact ((Within.refl w).alloc _).alloc _
  have HWW := Lib.hid hww; have HS := Lib.hid (hr.of hww); clear hww hr
  go_enter Tryd.func25, Tryd.ntmps25
  go_wp2_with fail
  rw [← hW0]
  clear hW0
  refine wp_region_schG (fun W => W.cell? ⟨w.heap.size, 0, none⟩ = some (.int .i64 k) ∧ W.cell? ⟨w.heap.size, 1, none⟩ = some (.slice A l.length c) ∧ (∀ o, W.frozen? ⟨w.heap.size + 1, o, none⟩ = false) ∧ W.cell? ⟨w.heap.size + 1, 0, none⟩ = some (.int .i64 0) ∧ W.cell? ⟨w.heap.size + 1, 1, none⟩ = some (.slice none 0 0) ∧ w.heap.size < W.heap.size ∧ w.heap.size + 1 < W.heap.size ∧ W = W0) 7 (.firm 0 (.firm 1 (.firm 3 (.firm 4 (.one 2 (.one 5 (.firm 6 (.one 7 .nil)))))))) (by kernel_rfl) (by kernel_rfl) ⟨k0, k1, zf, z0, z1, kb, zb, rfl⟩ ?_
  rintro w0 ⟨k0, k1, zf, z0, z1, kb, zb, rfl⟩
  try simp only [Act.put, List.setIfInBounds_toArray, List.set_cons_zero, List.set_cons_succ]
  iterate 4
    apply sch_firm rfl rfl (by repeat (first | with_reducible exact Within.refl _ | with_reducible assumption | with_reducible refine Within.alloc ?_ _ | with_reducible refine Within.drew ?_ | with_reducible refine Within.drewN ?_ _ | with_reducible refine Within.setCell ?_ (by first | (simp; done) | (simp; omega)) _ | with_reducible refine Within.trans ?_ (by assumption)))
    · intro wq hq
      have hcq := hq.cells
      clear hq
      go_simp
      rfl
    try simp only [Act.put, List.setIfInBounds_toArray, List.set_cons_zero, List.set_cons_succ]
  refine sch_one rfl rfl (fun K hK => ?_)
  go_simp
  refine hK _ _ (fun _ => (by repeat (first | with_reducible exact Within.refl _ | with_reducible assumption | with_reducible refine Within.alloc ?_ _ | with_reducible refine Within.drew ?_ | with_reducible refine Within.drewN ?_ _ | with_reducible refine Within.setCell ?_ (by first | (simp; done) | (simp; omega)) _ | with_reducible refine Within.trans ?_ (by assumption)))) ?_
  clear hK K
  try simp only [Act.put, List.setIfInBounds_toArray, List.set_cons_zero, List.set_cons_succ]
  refine sch_one rfl rfl (fun K hK => ?_)
  have hin2 := ((Within.refl w0).drew).alloc (.cells #[] 5)
  obtain ⟨v5, w5, hrun, hO5, hB5⟩ := run_app_u8 _ w0.heap.size _ [] l (OwnB.lit w0.drew w0.heap.size (Nat.le_refl _) [] (by simp)) A c (HS.out.of hin2) (by rw [List.length_nil]; omega) hin2.size
  rw [List.nil_append] at hO5
  have hX5 : Within w0 w5 := Below.trans hin2 hB5
  have RUN := Lib.hid hrun; have HO5 := Lib.hid hO5; clear hrun hO5 hB5 hin2
  refine op_append_run (.tmp 5) (.tmp 7) 22 rfl _ _ rfl rfl RUN.out ?_
  obtain ⟨A5, c5, rfl, hx5, hy5, hz5⟩ := HO5.out.form
  clear hx5 hy5 hz5
  refine hK _ _ (fun _ => (by repeat (first | with_reducible exact Within.refl _ | with_reducible assumption | with_reducible refine Within.alloc ?_ _ | with_reducible refine Within.drew ?_ | with_reducible refine Within.drewN ?_ _ | with_reducible refine Within.setCell ?_ (by first | (simp; done) | (simp; omega)) _ | with_reducible refine Within.trans ?_ (by assumption)))) ?_
  clear hK K
  try simp only [Act.put, List.setIfInBounds_toArray, List.set_cons_zero, List.set_cons_succ]
  apply sch_firm rfl rfl (by repeat (first | with_reducible exact Within.refl _ | with_reducible assumption | with_reducible refine Within.alloc ?_ _ | with_reducible refine Within.drew ?_ | with_reducible refine Within.drewN ?_ _ | with_reducible refine Within.setCell ?_ (by first | (simp; done) | (simp; omega)) _ | with_reducible refine Within.trans ?_ (by assumption)))
  · intro wq hq
    have hcq := hq.cells
    clear hq
    go_simp
    rfl
  try simp only [Act.put, List.setIfInBounds_toArray, List.set_cons_zero, List.set_cons_succ]
  refine sch_one rfl rfl (fun K hK => ?_)
  have f5 : w5.frozen? ⟨w.heap.size + 1, 0, none⟩ = false := (hX5.frozens _ _ zb).trans (zf 0)
  have f6 : w5.frozen? ⟨w.heap.size + 1, 1, none⟩ = false := (hX5.frozens _ _ zb).trans (zf 1)
  have y0 := (hX5.cells _ 0 zb).trans z0
  have y1 := (hX5.cells _ 1 zb).trans z1
  have zb5 := Nat.lt_of_lt_of_le zb hX5.size
  go_simp
  refine hK _ _ (fun h => absurd h (by decide)) ?_
  clear hK K
  try simp only [Act.put, List.setIfInBounds_toArray, List.set_cons_zero, List.set_cons_succ]
  refine sch_nil ?_
  go_wp2
  obtain ⟨n5, hn5⟩ : ∃ n5, n5 = l.length := ⟨_, rfl⟩
  refine bodyPost_ret (v := .agg #[.int .i64 k, .slice A5 l.length c5]) (by simp [results, Tryd.results25, go_sem, y0, y1, f5, f6]) rfl ⟨_, rfl, ?_, ?_⟩
  · exact ownsRow_keep (ownsRow_keep (HO5.out.less HWW.out.size) (fun j hj => Below.heap_setCell _ _ _ _ (by have := (HO5.out.lt j hj).1; simp; omega))) (fun j hj => Below.heap_setCell _ _ _ _ (by have := (HO5.out.lt j hj).1; simp; omega))
  · exact (((HWW.out.trans hX5).setCell (by simp) _).setCell (by simp) _)
end Go.Proofs.YtpmjlaiafgbjgaaDoor
end

section
namespace Go.Proofs.YtpmjlaiafgbjgaaDoor
open Go.RowKit

theorem RecB.one {w : World} {g : Nat} {k : Int} {D : Option Addr} {c : Nat} {d : List Nat} (hg : g < w.heap.size) (h0 : w.cell? ⟨g, 0, none⟩ = some (.int .i64 k)) (h1 : w.cell? ⟨g, 1, none⟩ = some (.slice D d.length c)) (hc : d.length ≤ c) (hs : SlAt w D (u8v d)) (hb : Bytes d) : RecB w (some ⟨g, 0, none⟩) [(k, d)] := fun i r hi => by
  match i, hi with
  | 0, hi =>
    obtain rfl : (k, d) = r := by simpa using hi
    exact ⟨g, D, c, rfl, hg, h0, h1, hc, hs, hb⟩
  | i + 1, hi => simp at hi
/-- two records laid side by side are the same -/
theorem same_one (W : World) (N : Nat) (hN : W.heap.size = N) (k : Int) (A B : Option Addr) (ca cb n : Nat) (d : List Nat) (hn : d.length = n) (hca : n ≤ ca) (hcb : n ≤ cb) (hb : Bytes d) (hA : SlAt W A (u8v d)) (hB : SlAt W B (u8v d)) : Calls Tryd.prog 16 #[.slice (some ⟨N, 0, none⟩) 1 1, .slice (some ⟨N + 1, 0, none⟩) 1 1] ((W.alloc (.cells #[.int .i64 k, .slice A n ca] 50)).alloc (.cells #[.int .i64 k, .slice B n cb] 50)) fun e w' => e = .returned (.bool true) ∧ Within W w' := by
  subst hn
  subst hN
  obtain ⟨V, hV⟩ : ∃ V, V = W.alloc (.cells #[.int .i64 k, .slice A d.length ca] 50) := ⟨_, rfl⟩
  obtain ⟨U, hU⟩ : ∃ U, U = V.alloc (.cells #[.int .i64 k, .slice B d.length cb] 50) := ⟨_, rfl⟩
  have iV : Within W V := by rw [hV]; exact (Within.refl W).alloc _
  have iU : Within V U := by rw [hU]; exact (Within.refl V).alloc _
  have hs : V.heap.size = W.heap.size + 1 := by rw [hV]; simp
  have a0 : V.cell? ⟨W.heap.size, 0, none⟩ = some (.int .i64 k) := by rw [hV]; simp
  have a1 : V.cell? ⟨W.heap.size, 1, none⟩ = some (.slice A d.length ca) := by rw [hV]; simp
  have b0 : U.cell? ⟨W.heap.size + 1, 0, none⟩ = some (.int .i64 k) := by rw [hU, ← hs]; simp
  have b1 : U.cell? ⟨W.heap.size + 1, 1, none⟩ = some (.slice B d.length cb) := by rw [hU, ← hs]; simp
  have hl : W.heap.size < V.heap.size := by omega
  have h1 := RecB.one (w := U) (g := W.heap.size) (Nat.lt_of_lt_of_le hl iU.size) ((iU.cells _ _ hl).trans a0) ((iU.cells _ _ hl).trans a1) hca (hA.of (iV.trans iU)) hb
  have h2 := RecB.one (w := U) (g := W.heap.size + 1) (World.block_lt_of_cell? _ _ b0) b0 b1 hcb (hB.of (iV.trans iU)) hb
  rw [← hV, ← hU]
  refine (Rsame22_any (some ⟨W.heap.size, 0, none⟩) (some ⟨W.heap.size + 1, 0, none⟩) 1 1 [(k, d)] (by simp) U h1 h2).mono ?_
  rintro e w' ⟨he, hi⟩
  exact ⟨he, (iV.trans iU).trans hi⟩

theorem packLs_bytes (s : Int) (q t : Nat) (l : List Nat) (hq : q < 4294967296) (ht : t < 4294967296) (hw : Words64 l) : Bytes (packL s q t l) := by
  unfold packL
  split
  · rename_i h
    obtain ⟨h1, h2, h3, h4⟩ := check_parts h
    exact packV_bytes ⟨by show s.toNat < 64; omega, hq, ht, h3, hw, h4⟩
  · intro x hx; cases hx
theorem readingsV_vals {rs : List IRec} (h1 : ∀ r ∈ rs, r.2.length ≤ 1152921504606846976) (h2 : ∀ r ∈ rs, Bytes r.2) : ∀ r ∈ readingsV rs, r.vals.length ≤ 6 := by
  intro r hr
  unfold readingsV at hr
  obtain ⟨x, hx, rfl⟩ := List.mem_map.1 hr
  obtain ⟨hx1, hx2⟩ := List.mem_filter.1 hx
  have h0 := isRd_unpack hx2
  unfold rdOf
  rw [if_pos h0]
  have := (readB_ok pf_ok (h2 x hx1) h0).len
  omega
theorem RecAt.bytes {w : World} {D : Nat → Prop} {C : Option Addr} {rs : List IRec} (h : RecAt w D C rs) : ∀ r ∈ rs, Bytes r.2 := by
  intro r hr
  obtain ⟨i, hi⟩ := List.getElem?_of_mem hr
  obtain ⟨_, _, _, _, _, _, _, _, _, _, _, hb⟩ := h i r hi
  exact hb

set_option maxRecDepth 100000 in
set_option maxHeartbeats 4000000 in
theorem jrecords_walk (k : Int) (A : Option Addr) (c : Nat) (d : List Nat) (hb : Bytes d) (hdl : d.length ≤ 140737488355328) (hc : d.length ≤ c) (st : ByteArray) (hst' : st.size ≤ 140737488355328) (s : Int) (q t : Nat) (B : Option Addr) (cb : Nat) (l : List Nat) (hq : q < 4294967296) (ht : t < 4294967296) (hw : Words64 l) (hl : l.length * 8 ≤ 140737488355328) (D : Nat → Prop) (C : Option Addr) (cc : Nat) (rs : List IRec) (hrl : rs.length * 32 ≤ 140737488355328) (hrz' : ∀ r ∈ rs, r.2.length ≤ 140737488355328) (w : World) (hT : FmS w) (hr : SlAt w A (u8v d)) (hrb : SlAt w B (u64v l)) (hrc : RecAt w D C rs) : Calls Tryd.prog 9 #[.agg #[.int .i64 k, .slice A d.length c], .string st, .agg #[.int .i64 s, .int .u32 (q : Int), .int .u32 (t : Int), .slice B l.length cb], .slice C rs.length cc] w fun e w' => e = .returned (.bool true) ∧ Within w w' := by
  have hrz : ∀ r ∈ rs, r.2.length ≤ 1152921504606846976 := fun r hr => by have := hrz' r hr; omega
  have hst : st.size ≤ 1152921504606846976 := by omega
  have hrby := hrc.bytes
  obtain ⟨W0, hW0⟩ : ∃ W, W = (w.alloc (.cells #[.int .i64 k, .slice A d.length c] 50)).alloc (.cells #[.int .i64 s, .int .u32 (q : Int), .int .u32 (t : Int), .slice B l.length cb] 59) := ⟨_, rfl⟩
  have hI : Within w W0 := by rw [hW0]; exact ((Within.refl w).alloc _).alloc _
  obtain ⟨V0, hV0⟩ : ∃ V, V = w.alloc (.cells #[.int .i64 k, .slice A d.length c] 50) := ⟨_, rfl⟩
  have hVs : V0.heap.size = w.heap.size + 1 := by rw [hV0]; simp
  have hI0 : Within V0 W0 := by rw [hW0, ← hV0]; exact (Within.refl _).alloc _
  have g0 : W0.cell? ⟨w.heap.size, 0, none⟩ = some (.int .i64 k) := (hI0.cells _ _ (by omega)).trans (by rw [hV0]; simp)
  have g1 : W0.cell? ⟨w.heap.size, 1, none⟩ = some (.slice A d.length c) := (hI0.cells _ _ (by omega)).trans (by rw [hV0]; simp)
  have gs : w.heap.size < W0.heap.size := by have := hI0.size; omega
  have x0 : W0.cell? ⟨w.heap.size + 1, 0, none⟩ = some (.int .i64 s) := by rw [hW0, ← hV0, ← hVs]; simp
  have x1 : W0.cell? ⟨w.heap.size + 1, 1, none⟩ = some (.int .u32 (q : Int)) := by rw [hW0, ← hV0, ← hVs]; simp
  have x2 : W0.cell? ⟨w.heap.size + 1, 2, none⟩ = some (.int .u32 (t : Int)) := by rw [hW0, ← hV0, ← hVs]; simp
  have x3 : W0.cell? ⟨w.heap.size + 1, 3, none⟩ = some (.slice B l.length cb) := by rw [hW0, ← hV0, ← hVs]; simp
  have xs : w.heap.size + 1 < W0.heap.size := World.block_lt_of_cell? _ _ x0
  clear hV0 hVs hI0
  have CPY := Lib.hid (fun W (h : Within W0 W) => copied_big k A c d hdl W (hr.of (hI.trans h)))
  have CK := Lib.hid (fun W A' c' (h : Within W0 W) (hc' : d.length ≤ c') (hs : SlAt W A' (u8v d)) => jcheck_any k A' c' d hb hc' (by omega) W (hT.of (hI.trans h)) hs)
  have RCK := Lib.hid (fun W (h : Within W0 W) => Rjcheck_any k A c d hb hc (by omega) W (hr.of (hI.trans h)))
  have AW := Lib.hid (fun W (h : Within W0 W) => jawake_true W (hT.of (hI.trans h)))
  have NOT_ := Lib.hid (fun W (h : Within W0 W) => Note_any st hst W (hT.of (hI.trans h)))
  have OF := Lib.hid (fun W (h : Within W0 W) => Of_any s (q : Int) (t : Int) B cb l hw hl W (hrb.of (hI.trans h)))
  have RDG := Lib.hid (fun W A' c' (h : Within W0 W) (hs : SlAt W A' (f64v l)) => Reading_any s q t A' c' l hq ht hw (by omega) W (hT.of (hI.trans h)) hs)
  have RPK := Lib.hid (fun W A' c' (hs : SlAt W A' (f64v l)) => Rpack_any s q t A' c' l hq ht hw (by omega) W hs)
  have RDS := Lib.hid (fun W (h : Within W0 W) => Readings_any D C cc rs (by omega) hrz W (hT.of (hI.trans h)) (hrc.of (hI.trans h)))
  have RRD := Lib.hid (fun W (h : Within W0 W) => Rreadings_any D C cc rs (by omega) hrz W (hrc.of (hI.trans h)))
  have NB := Lib.hid (strNums_bytes st)
  have NL := Lib.hid (strNums_len st)
  have RNC := Lib.hid (fun W A' c' (hc' : (strNums st).length ≤ c') (hs : SlAt W A' (u8v (strNums st))) => Rjcheck_any 3 A' c' (strNums st) (strNums_bytes st) hc' (by rw [strNums_len]; exact hst) W hs)
  have PLB := Lib.hid (packLs_bytes s q t l hq ht hw)
  have RVL : Hid ((readingsV rs).length ≤ 1152921504606846976) := Lib.hid (by have := readingsV_len rs; omega)
  have RVV : Hid (∀ r ∈ readingsV rs, r.vals.length ≤ 6) := Lib.hid (fun r hr => readingsV_vals hrz hrby r hr)
  unfold NoteP at NOT_
  unfold ReadingP at RDG
  obtain ⟨ck, hck⟩ : ∃ x, checkR pf k d = x := ⟨_, rfl⟩
  rw [hck] at CK RCK
  obtain ⟨nm, hnm⟩ : ∃ x, strNums st = x := ⟨_, rfl⟩
  rw [hnm] at NOT_ NB NL RNC
  obtain ⟨cn, hcn⟩ : ∃ x, checkR pf 3 nm = x := ⟨_, rfl⟩
  rw [hcn] at NOT_ RNC
  obtain ⟨cv, hcv⟩ : ∃ x, checkV pf s l = x := ⟨_, rfl⟩
  rw [hcv] at RDG RPK
  obtain ⟨pl, hpl⟩ : ∃ x, packL s q t l = x := ⟨_, rfl⟩
  rw [hpl] at RDG RPK PLB
  have HNO : Hid (cv ≠ 0 → pl = []) := Lib.hid (fun h => by rw [← hpl]; exact packL_no (by rw [hcv]; exact h))
  obtain ⟨rv, hrv⟩ : ∃ x, readingsV rs = x := ⟨_, rfl⟩
  rw [hrv] at RDS RRD RVL RVV
  obtain ⟨nn, hnn⟩ : ∃ x, st.size = x := ⟨_, rfl⟩
  rw [hnn] at NOT_ NL hst
  obtain ⟨dl, hdd⟩ : ∃ x, d.length = x := ⟨_, rfl⟩
  rw [hdd] at CPY CK RCK g1 hW0 hdl hc
  obtain ⟨ll, hll⟩ : ∃ x, l.length = x := ⟨_, rfl⟩
  rw [hll] at OF RDG RPK x3 hW0 hl
  obtain ⟨rl, hrr⟩ : ∃ x, rs.length = x := ⟨_, rfl⟩
  rw [hrr] at RDS RRD hrl
  rw [NL.out] at RNC
  have RB := fun (w : World) => run_bytes_of_string (P := Tryd.prog) w 9 22 5 st (by kernel_rfl) (by kernel_rfl) (by kernel_rfl)
  rw [hnn] at RB
  have HNN := Lib.hid hnn; have HNM := Lib.hid hnm
  have HI := Lib.hid hI; have HR := Lib.hid (hr.of hI)
  rw [hdd, hll, hrr]
  have LLN := Lib.hid hll
  obtain ⟨pn, hpn⟩ : ∃ n, pl.length = n := ⟨_, rfl⟩
  have PLN := Lib.hid hpn
  clear hpn
  have DL := Lib.hid hdd
  have ec : (ck != ck) = false := by simp
  clear hck hnm hcn hcv hpl hrv hnn hdd hll hrr hr hrb hrc hT hb hw hrz hI hq ht
  go_enter Tryd.func9, Tryd.ntmps9
  go_wp2_with fail
  rw [← hW0]
  clear hW0
  refine wp_region_schG (fun W => W.cell? ⟨w.heap.size, 0, none⟩ = some (.int .i64 k) ∧ W.cell? ⟨w.heap.size, 1, none⟩ = some (.slice A dl c) ∧ w.heap.size < W.heap.size ∧ Within W0 W) 9 (.firm 0 (.firm 3 (.one 1 (.one 2 (.one 4 (.firm 5 (.firm 6 (.one 7 (.firm 8 (.one 9 .nil)))))))))) (by kernel_rfl) (by kernel_rfl) ⟨g0, g1, gs, Within.refl _⟩ ?_
  rintro w0 ⟨g0, g1, gs, hw0⟩
  try simp only [Act.put, List.setIfInBounds_toArray, List.set_cons_zero, List.set_cons_succ]
  iterate 2
    apply sch_firm rfl rfl (by repeat (first | with_reducible exact Within.refl _ | with_reducible assumption | with_reducible refine Within.alloc ?_ _ | with_reducible refine Within.drew ?_ | with_reducible refine Within.drewN ?_ _ | with_reducible refine Within.setCell ?_ (by first | (simp; done) | (simp; omega)) _ | with_reducible refine Within.trans ?_ (by assumption)))
    · intro wq hq
      have hcq := hq.cells
      clear hq
      go_simp
      rfl
    try simp only [Act.put, List.setIfInBounds_toArray, List.set_cons_zero, List.set_cons_succ]
  refine sch_one rfl rfl (fun K hK => ?_)
  go_simp
  refine (CPY.out _ (by exact hw0.drew)).mono ?_; rintro e1 w1 ⟨v1, rfl, hO1, h1⟩
  obtain ⟨A1, c1, rfl, hc1, hs1, _⟩ := hO1.form
  rw [DL.out] at hc1 ⊢
  clear hO1
  refine hK _ _ (fun _ => (by repeat (first | with_reducible exact Within.refl _ | with_reducible assumption | with_reducible refine Within.alloc ?_ _ | with_reducible refine Within.drew ?_ | with_reducible refine Within.drewN ?_ _ | with_reducible refine Within.setCell ?_ (by first | (simp; done) | (simp; omega)) _ | with_reducible refine Within.trans ?_ (by assumption)))) ?_
  clear hK K
  try simp only [Act.put, List.setIfInBounds_toArray, List.set_cons_zero, List.set_cons_succ]
  refine sch_one rfl rfl (fun K hK => ?_)
  go_simp
  refine (CK.out _ A1 c1 (by exact hw0.drew.trans h1) hc1 hs1).mono ?_; rintro e2 w2 ⟨rfl, h2⟩
  refine hK _ _ (fun _ => (by repeat (first | with_reducible exact Within.refl _ | with_reducible assumption | with_reducible refine Within.alloc ?_ _ | with_reducible refine Within.drew ?_ | with_reducible refine Within.drewN ?_ _ | with_reducible refine Within.setCell ?_ (by first | (simp; done) | (simp; omega)) _ | with_reducible refine Within.trans ?_ (by assumption)))) ?_
  clear hK K
  try simp only [Act.put, List.setIfInBounds_toArray, List.set_cons_zero, List.set_cons_succ]
  refine sch_one rfl rfl (fun K hK => ?_)
  go_simp
  refine (RCK.out _ (by exact (hw0.drew.trans h1).trans h2)).mono ?_; rintro e3 w3 ⟨rfl, h3⟩
  refine hK _ _ (fun _ => (by repeat (first | with_reducible exact Within.refl _ | with_reducible assumption | with_reducible refine Within.alloc ?_ _ | with_reducible refine Within.drew ?_ | with_reducible refine Within.drewN ?_ _ | with_reducible refine Within.setCell ?_ (by first | (simp; done) | (simp; omega)) _ | with_reducible refine Within.trans ?_ (by assumption)))) ?_
  clear hK K
  try simp only [Act.put, List.setIfInBounds_toArray, List.set_cons_zero, List.set_cons_succ]
  iterate 2
    apply sch_firm rfl rfl (by repeat (first | with_reducible exact Within.refl _ | with_reducible assumption | with_reducible refine Within.alloc ?_ _ | with_reducible refine Within.drew ?_ | with_reducible refine Within.drewN ?_ _ | with_reducible refine Within.setCell ?_ (by first | (simp; done) | (simp; omega)) _ | with_reducible refine Within.trans ?_ (by assumption)))
    · intro wq hq
      have hcq := hq.cells
      clear hq
      go_simp
      rfl
    try simp only [Act.put, List.setIfInBounds_toArray, List.set_cons_zero, List.set_cons_succ]
  refine sch_one_want rfl (by first | rfl | decide | (simp [Region.wanted, yielded]; done)) (fun K hK => ?_)
  go_simp
  refine (AW.out _ (by exact ((hw0.drew.trans h1).trans h2).trans h3)).mono ?_; rintro e4 w4 ⟨rfl, h4⟩
  refine hK _ _ (fun _ => (by repeat (first | with_reducible exact Within.refl _ | with_reducible assumption | with_reducible refine Within.alloc ?_ _ | with_reducible refine Within.drew ?_ | with_reducible refine Within.drewN ?_ _ | with_reducible refine Within.setCell ?_ (by first | (simp; done) | (simp; omega)) _ | with_reducible refine Within.trans ?_ (by assumption)))) ?_
  clear hK K
  try simp only [Act.put, List.setIfInBounds_toArray, List.set_cons_zero, List.set_cons_succ]
  apply sch_want rfl (by first | rfl | decide | (simp [Region.wanted, yielded]; done)) (by repeat (first | with_reducible exact Within.refl _ | with_reducible assumption | with_reducible refine Within.alloc ?_ _ | with_reducible refine Within.drew ?_ | with_reducible refine Within.drewN ?_ _ | with_reducible refine Within.setCell ?_ (by first | (simp; done) | (simp; omega)) _ | with_reducible refine Within.trans ?_ (by assumption)))
  · intro wq hq
    have hcq := hq.cells
    clear hq
    go_simp
    rfl
  try simp only [Act.put, List.setIfInBounds_toArray, List.set_cons_zero, List.set_cons_succ]
  refine sch_one rfl rfl (fun K hK => ?_)
  go_simp
  refine hK _ _ (fun h => absurd h (by decide)) ?_
  clear hK K
  try simp only [Act.put, List.setIfInBounds_toArray, List.set_cons_zero, List.set_cons_succ]
  refine sch_nil ?_
  have hx4 : Within W0 w4 := (((hw0.drew.trans h1).trans h2).trans h3).trans h4
  clear h1 h2 h3 hw0 hs1 hc1 g0 g1 gs
  have x0 := (hx4.cells _ _ xs).trans x0
  have x1 := (hx4.cells _ _ xs).trans x1
  have x2 := (hx4.cells _ _ xs).trans x2
  have x3 := (hx4.cells _ _ xs).trans x3
  have xs := Nat.lt_of_lt_of_le xs hx4.size
  go_wp2_with fail
  refine (NOT_.out _ hx4).mono ?_; rintro e5 w5 ⟨hN, h5⟩
  have hq5 := hx4.trans h5
  have x0 := (h5.cells _ _ xs).trans x0
  have x1 := (h5.cells _ _ xs).trans x1
  have x2 := (h5.cells _ _ xs).trans x2
  have x3 := (h5.cells _ _ xs).trans x3
  have xs := Nat.lt_of_lt_of_le xs h5.size
  clear hx4 h5
  rcases hN with ⟨hc0, A5, c5, rfl, hc5, hs5, _⟩ | ⟨hcn0, rfl⟩
  · subst hc0
    obtain ⟨W5, hW5⟩ : ∃ W, W = w5.alloc (.cells #[.int .i64 3, .slice A5 nn c5] 50) := ⟨_, rfl⟩
    have hge := grownCap_ge W5 nn 0 5
    obtain ⟨cp, hcp⟩ : ∃ c, grownCap W5 nn 0 5 = c := ⟨_, rfl⟩
    rw [hcp] at hge
    obtain ⟨CC, hCC⟩ : ∃ C, bytesRow st cp = C := ⟨_, rfl⟩
    obtain ⟨Z2, hZ2⟩ : ∃ Z, Z = W5.alloc (.cells CC 5 (CC.size, CC.size + 1)) := ⟨_, rfl⟩
    obtain ⟨Z3, hZ3⟩ : ∃ Z, Z = Z2.alloc (.cells #[.int .i64 3, .slice (some ⟨w5.heap.size + 1, 0, none⟩) nn cp] 50) := ⟨_, rfl⟩
    obtain ⟨W7, hW7⟩ : ∃ W, W = Z3.drew := ⟨_, rfl⟩
    have s5 : W5.heap.size = w5.heap.size + 1 := by rw [hW5]; simp
    have s2 : Z2.heap.size = w5.heap.size + 1 + 1 := by rw [hZ2]; simp [s5]
    have s3 : Z3.heap.size = w5.heap.size + 1 + 1 + 1 := by rw [hZ3]; simp [s2]
    have s7 : W7.heap.size = w5.heap.size + 1 + 1 + 1 := by rw [hW7]; exact s3
    have i3 : Within Z3 W7 := by rw [hW7]; exact (Within.refl _).drew
    have i2 : Within Z2 W7 := Within.trans (by rw [hZ3]; exact (Within.refl _).alloc _) i3
    have i5 : Within W5 W7 := Within.trans (by rw [hZ2]; exact (Within.refl _).alloc _) i2
    have i0 : Within w5 W7 := Within.trans (by rw [hW5]; exact (Within.refl _).alloc _) i5
    have hsb : SlAt W7 (some ⟨w5.heap.size + 1, 0, none⟩) (u8v nm) := by
      have h := bytes_at W5 st cp 5 (CC.size, CC.size + 1)
      rw [hCC, s5, ← hZ2, HNM.out] at h
      exact h.of i2
    have p0 : W7.cell? ⟨w5.heap.size, 0, none⟩ = some (.int .i64 3) := (i5.cells _ _ (by omega)).trans (by rw [hW5]; simp)
    have p1 : W7.cell? ⟨w5.heap.size, 1, none⟩ = some (.slice A5 nn c5) := (i5.cells _ _ (by omega)).trans (by rw [hW5]; simp)
    have pfr : ∀ o, W7.frozen? ⟨w5.heap.size, o, none⟩ = false := fun o => (i5.frozens _ o (by omega)).trans (by rw [hW5]; simp)
    have ps : w5.heap.size < W7.heap.size := by omega
    have b0 : W7.cell? ⟨w5.heap.size + 1 + 1, 0, none⟩ = some (.int .i64 3) := (i3.cells _ _ (by omega)).trans (by rw [hZ3, ← s2]; simp)
    have b1 : W7.cell? ⟨w5.heap.size + 1 + 1, 1, none⟩ = some (.slice (some ⟨w5.heap.size + 1, 0, none⟩) nn cp) := (i3.cells _ _ (by omega)).trans (by rw [hZ3, ← s2]; simp)
    have bfr : ∀ o, W7.frozen? ⟨w5.heap.size + 1 + 1, o, none⟩ = false := fun o => (i3.frozens _ o (by omega)).trans (by rw [hZ3, ← s2]; simp)
    have bs : w5.heap.size + 1 + 1 < W7.heap.size := by omega
    have x0 := (i0.cells _ _ xs).trans x0
    have x1 := (i0.cells _ _ xs).trans x1
    have x2 := (i0.cells _ _ xs).trans x2
    have x3 := (i0.cells _ _ xs).trans x3
    have hrp : w.heap.size + 1 < w5.heap.size := xs
    have xs := Nat.lt_of_lt_of_le xs i0.size
    have hq7 := hq5.trans i0
    have hp5 : W0.heap.size ≤ w5.heap.size := hq5.size
    have hb5 : W0.heap.size ≤ w5.heap.size + 1 + 1 := by omega
    have hs5' := hs5.of i0
    have HE := Lib.hid (And.intro hW5 (And.intro hcp (And.intro hCC (And.intro hZ2 (And.intro hZ3 hW7)))))
    clear hW5 hcp hCC hZ2 hZ3 hW7 s5 s2 s3 i3 i2 i5 i0 hq5 hs5
    have hrr : Hid (w.heap.size + 1 < w5.heap.size) := Lib.hid hrp
    go_wp2_with fail
    rw [← HE.out.1, HE.out.2.1, HE.out.2.2.1, ← HE.out.2.2.2.1, ← HE.out.2.2.2.2.1, ← HE.out.2.2.2.2.2]
    refine (RNC.out W7 (some ⟨w5.heap.size + 1, 0, none⟩) cp hge hsb).mono ?_; rintro e8 w8 ⟨rfl, h8⟩
    have p0 := (h8.cells _ _ ps).trans p0
    have p1 := (h8.cells _ _ ps).trans p1
    have pfr := fun o => (h8.frozens _ o ps).trans (pfr o)
    have ps := Nat.lt_of_lt_of_le ps h8.size
    have b0 := (h8.cells _ _ bs).trans b0
    have b1 := (h8.cells _ _ bs).trans b1
    have bfr := fun o => (h8.frozens _ o bs).trans (bfr o)
    have bs := Nat.lt_of_lt_of_le bs h8.size
    have x0 := (h8.cells _ _ xs).trans x0
    have x1 := (h8.cells _ _ xs).trans x1
    have x2 := (h8.cells _ _ xs).trans x2
    have x3 := (h8.cells _ _ xs).trans x3
    have xs := Nat.lt_of_lt_of_le xs h8.size
    have hq8 := hq7.trans h8
    have hsb8 := hsb.of h8
    have hs58 := hs5'.of h8
    have SM := Lib.hid (same_one w8 w8.heap.size rfl 3 A5 (some ⟨w5.heap.size + 1, 0, none⟩) c5 cp nn nm NL.out hc5 hge NB.out hs58 hsb8)
    clear h8 hq7 hsb hsb8 hs58 hs5' s7
    go_wp2_with fail
    refine SM.out.mono ?_; rintro e9 w9 ⟨rfl, h9⟩
    have p0 := (h9.cells _ _ ps).trans p0
    have p1 := (h9.cells _ _ ps).trans p1
    have pfr := fun o => (h9.frozens _ o ps).trans (pfr o)
    have ps := Nat.lt_of_lt_of_le ps h9.size
    have b0 := (h9.cells _ _ bs).trans b0
    have b1 := (h9.cells _ _ bs).trans b1
    have bfr := fun o => (h9.frozens _ o bs).trans (bfr o)
    have bs := Nat.lt_of_lt_of_le bs h9.size
    have x0 := (h9.cells _ _ xs).trans x0
    have x1 := (h9.cells _ _ xs).trans x1
    have x2 := (h9.cells _ _ xs).trans x2
    have x3 := (h9.cells _ _ xs).trans x3
    have xs := Nat.lt_of_lt_of_le xs h9.size
    have hq9 := hq8.trans h9
    clear h9 hq8 SM
    go_wp2_with fail
    refine (OF.out _ (by exact hq9)).mono ?_; rintro e10 w10 ⟨v10, rfl, hO10, h10⟩
    obtain ⟨A10, c10, rfl, _, hs10, _⟩ := hO10.form
    rw [LLN.out]
    have x0 := (h10.cells _ _ xs).trans x0
    have x1 := (h10.cells _ _ xs).trans x1
    have x2 := (h10.cells _ _ xs).trans x2
    have x3 := (h10.cells _ _ xs).trans x3
    have xs := Nat.lt_of_lt_of_le xs h10.size
    have p0 := (h10.cells _ _ ps).trans p0
    have p1 := (h10.cells _ _ ps).trans p1
    have pfr := fun o => (h10.frozens _ o ps).trans (pfr o)
    have ps := Nat.lt_of_lt_of_le ps h10.size
    have b0 := (h10.cells _ _ bs).trans b0
    have b1 := (h10.cells _ _ bs).trans b1
    have bfr := fun o => (h10.frozens _ o bs).trans (bfr o)
    have bs := Nat.lt_of_lt_of_le bs h10.size
    have hq10 := hq9.trans h10
    have hb10 := ps
    have hbb10 := bs
    go_wp2_with fail
    refine (RDG.out _ A10 c10 hq10 hs10).mono ?_; rintro e11 w11 ⟨k11, v11, rfl, hk11, hO11, h11⟩
    obtain ⟨A11, c11, rfl, hc11, _, _⟩ := hO11.form
    rw [PLN.out] at hO11 hc11 ⊢
    have hbl11 : ∀ ad, A11 = some ad → w10.heap.size ≤ ad.block := fun ad e => (hO11.lt ad.block (by rw [e]; rfl)).1
    have x0 := (h11.cells _ _ xs).trans x0
    have x1 := (h11.cells _ _ xs).trans x1
    have x2 := (h11.cells _ _ xs).trans x2
    have x3 := (h11.cells _ _ xs).trans x3
    have xs := Nat.lt_of_lt_of_le xs h11.size
    have p0 := (h11.cells _ _ ps).trans p0
    have p1 := (h11.cells _ _ ps).trans p1
    have pfr := fun o => (h11.frozens _ o ps).trans (pfr o)
    have ps := Nat.lt_of_lt_of_le ps h11.size
    have b0 := (h11.cells _ _ bs).trans b0
    have b1 := (h11.cells _ _ bs).trans b1
    have bfr := fun o => (h11.frozens _ o bs).trans (bfr o)
    have bs := Nat.lt_of_lt_of_le bs h11.size
    have hq11 := hq10.trans h11
    have HK11 := Lib.hid hk11; clear hk11
    obtain ⟨W11, hW11⟩ : ∃ W, W = (w11.setCell ⟨w5.heap.size, 0, none⟩ (.int .i64 k11)).setCell ⟨w5.heap.size, 1, none⟩ (.slice A11 pn c11) := ⟨_, rfl⟩
    have zW11 : W11.heap.size = w11.heap.size := by rw [hW11]; simp [World.setCell]
    have x0 := (show W11.cell? ⟨w.heap.size + 1, 0, none⟩ = w11.cell? ⟨w.heap.size + 1, 0, none⟩ by rw [hW11, World.cell?_setCell_other _ _ _ _ (by first | (simp; done) | (simp; omega)), World.cell?_setCell_other _ _ _ _ (by first | (simp; done) | (simp; omega))]).trans x0
    have x1 := (show W11.cell? ⟨w.heap.size + 1, 1, none⟩ = w11.cell? ⟨w.heap.size + 1, 1, none⟩ by rw [hW11, World.cell?_setCell_other _ _ _ _ (by first | (simp; done) | (simp; omega)), World.cell?_setCell_other _ _ _ _ (by first | (simp; done) | (simp; omega))]).trans x1
    have x2 := (show W11.cell? ⟨w.heap.size + 1, 2, none⟩ = w11.cell? ⟨w.heap.size + 1, 2, none⟩ by rw [hW11, World.cell?_setCell_other _ _ _ _ (by first | (simp; done) | (simp; omega)), World.cell?_setCell_other _ _ _ _ (by first | (simp; done) | (simp; omega))]).trans x2
    have x3 := (show W11.cell? ⟨w.heap.size + 1, 3, none⟩ = w11.cell? ⟨w.heap.size + 1, 3, none⟩ by rw [hW11, World.cell?_setCell_other _ _ _ _ (by first | (simp; done) | (simp; omega)), World.cell?_setCell_other _ _ _ _ (by first | (simp; done) | (simp; omega))]).trans x3
    have b0 := (show W11.cell? ⟨w5.heap.size + 1 + 1, 0, none⟩ = w11.cell? ⟨w5.heap.size + 1 + 1, 0, none⟩ by rw [hW11, World.cell?_setCell_other _ _ _ _ (by first | (simp; done) | (simp; omega)), World.cell?_setCell_other _ _ _ _ (by first | (simp; done) | (simp; omega))]).trans b0
    have b1 := (show W11.cell? ⟨w5.heap.size + 1 + 1, 1, none⟩ = w11.cell? ⟨w5.heap.size + 1 + 1, 1, none⟩ by rw [hW11, World.cell?_setCell_other _ _ _ _ (by first | (simp; done) | (simp; omega)), World.cell?_setCell_other _ _ _ _ (by first | (simp; done) | (simp; omega))]).trans b1
    have p0 : W11.cell? ⟨w5.heap.size, 0, none⟩ = some (.int .i64 k11) := by rw [hW11, World.cell?_setCell_other _ _ _ _ (by simp)]; exact World.cell?_setCell_same _ _ _ p0
    have p1 : W11.cell? ⟨w5.heap.size, 1, none⟩ = some (.slice A11 pn c11) := by rw [hW11]; exact World.cell?_setCell_same _ _ _ ((World.cell?_setCell_other _ _ _ _ (by simp)).trans p1)
    have pfr : ∀ o, W11.frozen? ⟨w5.heap.size, o, none⟩ = false := by intro o; rw [hW11, World.frozen?_setCell, World.frozen?_setCell]; exact pfr o
    have ps : w5.heap.size < W11.heap.size := by rw [zW11]; exact ps
    have xs : w.heap.size + 1 < W11.heap.size := by rw [zW11]; exact xs
    have bfr : ∀ o, W11.frozen? ⟨w5.heap.size + 1 + 1, o, none⟩ = false := by intro o; rw [hW11, World.frozen?_setCell, World.frozen?_setCell]; exact bfr o
    have bs : w5.heap.size + 1 + 1 < W11.heap.size := by rw [zW11]; exact bs
    have bW11 : But (w5.heap.size) w11 W11 := by rw [hW11]; exact ((But.refl (w5.heap.size) w11).set (p := ⟨w5.heap.size, 0, none⟩) (.inl rfl) _).set (p := ⟨w5.heap.size, 1, none⟩) (.inl rfl) _
    have hw11 : Within W0 W11 := by rw [hW11]; exact (hq11.setCell hp5 _).setCell hp5 _
    have hO11' := hO11.but bW11 hb10
    have E11 := Lib.hid hW11; clear hW11 hs10 hO10 h10 h11 hO11 bW11 hq10 hq11
    obtain ⟨B11, d11, e11', _, hs11, _⟩ := hO11'.form
    rw [PLN.out] at e11'
    obtain ⟨rfl, _, rfl⟩ := Value.slice.inj e11'
    clear hO11' e11'
    go_wp2_with fail
    rw [← E11.out]
    refine (OF.out _ (by exact hw11)).mono ?_; rintro e12 w12 ⟨v12, rfl, hO12, h12⟩
    obtain ⟨A12, c12, rfl, _, hs12, _⟩ := hO12.form
    rw [LLN.out]
    have x0 := (h12.cells _ _ xs).trans x0
    have x1 := (h12.cells _ _ xs).trans x1
    have x2 := (h12.cells _ _ xs).trans x2
    have x3 := (h12.cells _ _ xs).trans x3
    have xs := Nat.lt_of_lt_of_le xs h12.size
    have p0 := (h12.cells _ _ ps).trans p0
    have p1 := (h12.cells _ _ ps).trans p1
    have pfr := fun o => (h12.frozens _ o ps).trans (pfr o)
    have ps := Nat.lt_of_lt_of_le ps h12.size
    have b0 := (h12.cells _ _ bs).trans b0
    have b1 := (h12.cells _ _ bs).trans b1
    have bfr := fun o => (h12.frozens _ o bs).trans (bfr o)
    have bs := Nat.lt_of_lt_of_le bs h12.size
    have hbb12 := bs
    go_wp2_with fail
    refine (RPK.out _ A12 c12 hs12).mono ?_; rintro e13 w13 ⟨v13, rfl, hO13, h13⟩
    obtain ⟨A13, c13, rfl, hc13, hs13, _⟩ := hO13.form
    rw [PLN.out] at hc13 hO13 ⊢
    have x0 := (h13.cells _ _ xs).trans x0
    have x1 := (h13.cells _ _ xs).trans x1
    have x2 := (h13.cells _ _ xs).trans x2
    have x3 := (h13.cells _ _ xs).trans x3
    have xs := Nat.lt_of_lt_of_le xs h13.size
    have p0 := (h13.cells _ _ ps).trans p0
    have p1 := (h13.cells _ _ ps).trans p1
    have pfr := fun o => (h13.frozens _ o ps).trans (pfr o)
    have ps := Nat.lt_of_lt_of_le ps h13.size
    have b0 := (h13.cells _ _ bs).trans b0
    have b1 := (h13.cells _ _ bs).trans b1
    have bfr := fun o => (h13.frozens _ o bs).trans (bfr o)
    have bs := Nat.lt_of_lt_of_le bs h13.size
    have hq13 := hw11.trans (h12.trans h13)
    have hs11' := hs11.of (h12.trans h13)
    obtain ⟨W13, hW13⟩ : ∃ W, W = (w13.setCell ⟨w5.heap.size + 1 + 1, 0, none⟩ (.int .i64 1)).setCell ⟨w5.heap.size + 1 + 1, 1, none⟩ (.slice A13 pn c13) := ⟨_, rfl⟩
    have zW13 : W13.heap.size = w13.heap.size := by rw [hW13]; simp [World.setCell]
    have x0 := (show W13.cell? ⟨w.heap.size + 1, 0, none⟩ = w13.cell? ⟨w.heap.size + 1, 0, none⟩ by rw [hW13, World.cell?_setCell_other _ _ _ _ (by first | (simp; done) | (simp; omega)), World.cell?_setCell_other _ _ _ _ (by first | (simp; done) | (simp; omega))]).trans x0
    have x1 := (show W13.cell? ⟨w.heap.size + 1, 1, none⟩ = w13.cell? ⟨w.heap.size + 1, 1, none⟩ by rw [hW13, World.cell?_setCell_other _ _ _ _ (by first | (simp; done) | (simp; omega)), World.cell?_setCell_other _ _ _ _ (by first | (simp; done) | (simp; omega))]).trans x1
    have x2 := (show W13.cell? ⟨w.heap.size + 1, 2, none⟩ = w13.cell? ⟨w.heap.size + 1, 2, none⟩ by rw [hW13, World.cell?_setCell_other _ _ _ _ (by first | (simp; done) | (simp; omega)), World.cell?_setCell_other _ _ _ _ (by first | (simp; done) | (simp; omega))]).trans x2
    have x3 := (show W13.cell? ⟨w.heap.size + 1, 3, none⟩ = w13.cell? ⟨w.heap.size + 1, 3, none⟩ by rw [hW13, World.cell?_setCell_other _ _ _ _ (by first | (simp; done) | (simp; omega)), World.cell?_setCell_other _ _ _ _ (by first | (simp; done) | (simp; omega))]).trans x3
    have p0 := (show W13.cell? ⟨w5.heap.size, 0, none⟩ = w13.cell? ⟨w5.heap.size, 0, none⟩ by rw [hW13, World.cell?_setCell_other _ _ _ _ (by first | (simp; done) | (simp; omega)), World.cell?_setCell_other _ _ _ _ (by first | (simp; done) | (simp; omega))]).trans p0
    have p1 := (show W13.cell? ⟨w5.heap.size, 1, none⟩ = w13.cell? ⟨w5.heap.size, 1, none⟩ by rw [hW13, World.cell?_setCell_other _ _ _ _ (by first | (simp; done) | (simp; omega)), World.cell?_setCell_other _ _ _ _ (by first | (simp; done) | (simp; omega))]).trans p1
    have b0 : W13.cell? ⟨w5.heap.size + 1 + 1, 0, none⟩ = some (.int .i64 1) := by rw [hW13, World.cell?_setCell_other _ _ _ _ (by simp)]; exact World.cell?_setCell_same _ _ _ b0
    have b1 : W13.cell? ⟨w5.heap.size + 1 + 1, 1, none⟩ = some (.slice A13 pn c13) := by rw [hW13]; exact World.cell?_setCell_same _ _ _ ((World.cell?_setCell_other _ _ _ _ (by simp)).trans b1)
    have bfr : ∀ o, W13.frozen? ⟨w5.heap.size + 1 + 1, o, none⟩ = false := by intro o; rw [hW13, World.frozen?_setCell, World.frozen?_setCell]; exact bfr o
    have bs : w5.heap.size + 1 + 1 < W13.heap.size := by rw [zW13]; exact bs
    have xs : w.heap.size + 1 < W13.heap.size := by rw [zW13]; exact xs
    have pfr : ∀ o, W13.frozen? ⟨w5.heap.size, o, none⟩ = false := by intro o; rw [hW13, World.frozen?_setCell, World.frozen?_setCell]; exact pfr o
    have ps : w5.heap.size < W13.heap.size := by rw [zW13]; exact ps
    have bW13 : But (w5.heap.size + 1 + 1) w13 W13 := by rw [hW13]; exact ((But.refl (w5.heap.size + 1 + 1) w13).set (p := ⟨w5.heap.size + 1 + 1, 0, none⟩) (.inl rfl) _).set (p := ⟨w5.heap.size + 1 + 1, 1, none⟩) (.inl rfl) _
    have hw13 : Within W0 W13 := by rw [hW13]; exact (hq13.setCell hb5 _).setCell hb5 _
    have hs13b := hs13.but bW13 (fun ad e => by have := (hO13.lt ad.block (by rw [e]; rfl)).1; omega)
    have hs11b := hs11'.but bW13 (fun ad e => by have h1 := hbl11 ad e; omega)
    have E13 := Lib.hid hW13; have HS13 := Lib.hid hs13b; have HS11 := Lib.hid hs11b; have HW13 := Lib.hid hw13; clear hW13 hs13b hs11b hs11 hs11' hs13 hs12 hO12 hO13 h12 h13 hq13 bW13 hw11 hw13
    have ev : (cv == cv) = true := by simp
    go_upto_region 13 with fail
    rw [← E13.out]
    by_cases hv0 : cv = 0
    · subst hv0
      obtain rfl : k11 = 1 := by rw [HK11.out, if_pos rfl]
      have SM2 := Lib.hid (same_one W13 w13.heap.size zW13 1 A11 A13 c11 c13 pn pl PLN.out hc11 hc13 PLB.out HS11.out HS13.out)
      have hw13 := HW13.out
      go_wp2_with fail
      refine SM2.out.mono ?_; rintro e14 w14 ⟨rfl, h14⟩
      have hq14 := hw13.trans h14
      clear h14 SM2
      go_wp2_with fail
      refine (RDS.out _ hq14).mono ?_; rintro e15 w15 ⟨v15, rfl, hO15, h15⟩
      obtain ⟨A15, c15, rfl, _, hR15, _⟩ := hO15.at
      have hq15 := hq14.trans h15
      go_wp2_with fail
      refine (RRD.out _ hq15).mono ?_; rintro e16 w16 ⟨v16, rfl, hO16, h16⟩
      obtain ⟨A16, c16, rfl, _, hR16, _⟩ := hO16.at
      have hq16 := hq15.trans h16
      have SA := Lib.hid (Rsameall_any A15 A16 c15 c16 rv RVL.out RVV.out w16 (hR15.of h16) hR16)
      clear hO15 hR15 hO16 hR16 h15 h16
      go_wp2_with fail
      refine SA.out.mono ?_; rintro e17 w17 ⟨rfl, h17⟩
      have hq17 := HI.out.trans (hq16.trans h17)
      clear h17 SA
      go_wp2
      go_ret
      exact ⟨rfl, hq17⟩
    · have v2 : (cv != 0) = true := bne_iff_ne.2 hv0
      obtain rfl : k11 = 0 := by rw [HK11.out, if_neg hv0]
      have hpl0 := HNO.out hv0
      obtain rfl : pn = 0 := by rw [← PLN.out, hpl0]; rfl
      clear hpl0
      obtain ⟨W14, hW14⟩ : ∃ W, W = (W13.setCell ⟨w5.heap.size + 1 + 1, 0, none⟩ (.int .i64 0)).setCell ⟨w5.heap.size + 1 + 1, 1, none⟩ (.slice none 0 0) := ⟨_, rfl⟩
      have zW14 : W14.heap.size = W13.heap.size := by rw [hW14]; simp [World.setCell]
      have x0 := (show W14.cell? ⟨w.heap.size + 1, 0, none⟩ = W13.cell? ⟨w.heap.size + 1, 0, none⟩ by rw [hW14, World.cell?_setCell_other _ _ _ _ (by first | (simp; done) | (simp; omega)), World.cell?_setCell_other _ _ _ _ (by first | (simp; done) | (simp; omega))]).trans x0
      have x1 := (show W14.cell? ⟨w.heap.size + 1, 1, none⟩ = W13.cell? ⟨w.heap.size + 1, 1, none⟩ by rw [hW14, World.cell?_setCell_other _ _ _ _ (by first | (simp; done) | (simp; omega)), World.cell?_setCell_other _ _ _ _ (by first | (simp; done) | (simp; omega))]).trans x1
      have x2 := (show W14.cell? ⟨w.heap.size + 1, 2, none⟩ = W13.cell? ⟨w.heap.size + 1, 2, none⟩ by rw [hW14, World.cell?_setCell_other _ _ _ _ (by first | (simp; done) | (simp; omega)), World.cell?_setCell_other _ _ _ _ (by first | (simp; done) | (simp; omega))]).trans x2
      have x3 := (show W14.cell? ⟨w.heap.size + 1, 3, none⟩ = W13.cell? ⟨w.heap.size + 1, 3, none⟩ by rw [hW14, World.cell?_setCell_other _ _ _ _ (by first | (simp; done) | (simp; omega)), World.cell?_setCell_other _ _ _ _ (by first | (simp; done) | (simp; omega))]).trans x3
      have p0 := (show W14.cell? ⟨w5.heap.size, 0, none⟩ = W13.cell? ⟨w5.heap.size, 0, none⟩ by rw [hW14, World.cell?_setCell_other _ _ _ _ (by first | (simp; done) | (simp; omega)), World.cell?_setCell_other _ _ _ _ (by first | (simp; done) | (simp; omega))]).trans p0
      have p1 := (show W14.cell? ⟨w5.heap.size, 1, none⟩ = W13.cell? ⟨w5.heap.size, 1, none⟩ by rw [hW14, World.cell?_setCell_other _ _ _ _ (by first | (simp; done) | (simp; omega)), World.cell?_setCell_other _ _ _ _ (by first | (simp; done) | (simp; omega))]).trans p1
      have b0 : W14.cell? ⟨w5.heap.size + 1 + 1, 0, none⟩ = some (.int .i64 0) := by rw [hW14, World.cell?_setCell_other _ _ _ _ (by simp)]; exact World.cell?_setCell_same _ _ _ b0
      have b1 : W14.cell? ⟨w5.heap.size + 1 + 1, 1, none⟩ = some (.slice none 0 0) := by rw [hW14]; exact World.cell?_setCell_same _ _ _ ((World.cell?_setCell_other _ _ _ _ (by simp)).trans b1)
      have bfr : ∀ o, W14.frozen? ⟨w5.heap.size + 1 + 1, o, none⟩ = false := by intro o; rw [hW14, World.frozen?_setCell, World.frozen?_setCell]; exact bfr o
      have bs : w5.heap.size + 1 + 1 < W14.heap.size := by rw [zW14]; exact bs
      have xs : w.heap.size + 1 < W14.heap.size := by rw [zW14]; exact xs
      have pfr : ∀ o, W14.frozen? ⟨w5.heap.size, o, none⟩ = false := by intro o; rw [hW14, World.frozen?_setCell, World.frozen?_setCell]; exact pfr o
      have ps : w5.heap.size < W14.heap.size := by rw [zW14]; exact ps
      have bW14 : But (w5.heap.size + 1 + 1) W13 W14 := by rw [hW14]; exact ((But.refl (w5.heap.size + 1 + 1) W13).set (p := ⟨w5.heap.size + 1 + 1, 0, none⟩) (.inl rfl) _).set (p := ⟨w5.heap.size + 1 + 1, 1, none⟩) (.inl rfl) _
      have hw14 : Within W0 W14 := by rw [hW14]; exact (HW13.out.setCell hb5 _).setCell hb5 _
      have SM2 := Lib.hid (same_one W14 w13.heap.size (zW14.trans zW13) 0 A11 none c11 0 0 [] rfl hc11 (Nat.le_refl _) (fun x hx => by cases hx) SlAt.nil SlAt.nil)
      have E14 := Lib.hid hW14; clear hW14 bW14
      go_wp2_with fail
      rw [← E14.out]
      refine SM2.out.mono ?_; rintro e14 w14 ⟨rfl, h14⟩
      have hq14 := hw14.trans h14
      clear h14 SM2
      go_wp2_with fail
      refine (RDS.out _ hq14).mono ?_; rintro e15 w15 ⟨v15, rfl, hO15, h15⟩
      obtain ⟨A15, c15, rfl, _, hR15, _⟩ := hO15.at
      have hq15 := hq14.trans h15
      go_wp2_with fail
      refine (RRD.out _ hq15).mono ?_; rintro e16 w16 ⟨v16, rfl, hO16, h16⟩
      obtain ⟨A16, c16, rfl, _, hR16, _⟩ := hO16.at
      have hq16 := hq15.trans h16
      have SA := Lib.hid (Rsameall_any A15 A16 c15 c16 rv RVL.out RVV.out w16 (hR15.of h16) hR16)
      clear hO15 hR15 hO16 hR16 h15 h16
      go_wp2_with fail
      refine SA.out.mono ?_; rintro e17 w17 ⟨rfl, h17⟩
      have hq17 := HI.out.trans (hq16.trans h17)
      clear h17 SA
      go_wp2
      go_ret
      exact ⟨rfl, hq17⟩
  · obtain ⟨W5, hW5⟩ : ∃ W, W = w5.alloc (.cells #[.int .i64 0, .slice none 0 0] 50) := ⟨_, rfl⟩
    have hge := grownCap_ge W5 nn 0 5
    obtain ⟨cp, hcp⟩ : ∃ c, grownCap W5 nn 0 5 = c := ⟨_, rfl⟩
    rw [hcp] at hge
    obtain ⟨CC, hCC⟩ : ∃ C, bytesRow st cp = C := ⟨_, rfl⟩
    obtain ⟨Z2, hZ2⟩ : ∃ Z, Z = W5.alloc (.cells CC 5 (CC.size, CC.size + 1)) := ⟨_, rfl⟩
    obtain ⟨Z3, hZ3⟩ : ∃ Z, Z = Z2.alloc (.cells #[.int .i64 3, .slice (some ⟨w5.heap.size + 1, 0, none⟩) nn cp] 50) := ⟨_, rfl⟩
    obtain ⟨W7, hW7⟩ : ∃ W, W = Z3.drew := ⟨_, rfl⟩
    have s5 : W5.heap.size = w5.heap.size + 1 := by rw [hW5]; simp
    have s2 : Z2.heap.size = w5.heap.size + 1 + 1 := by rw [hZ2]; simp [s5]
    have s3 : Z3.heap.size = w5.heap.size + 1 + 1 + 1 := by rw [hZ3]; simp [s2]
    have s7 : W7.heap.size = w5.heap.size + 1 + 1 + 1 := by rw [hW7]; exact s3
    have i3 : Within Z3 W7 := by rw [hW7]; exact (Within.refl _).drew
    have i2 : Within Z2 W7 := Within.trans (by rw [hZ3]; exact (Within.refl _).alloc _) i3
    have i5 : Within W5 W7 := Within.trans (by rw [hZ2]; exact (Within.refl _).alloc _) i2
    have i0 : Within w5 W7 := Within.trans (by rw [hW5]; exact (Within.refl _).alloc _) i5
    have hsb : SlAt W7 (some ⟨w5.heap.size + 1, 0, none⟩) (u8v nm) := by
      have h := bytes_at W5 st cp 5 (CC.size, CC.size + 1)
      rw [hCC, s5, ← hZ2, HNM.out] at h
      exact h.of i2
    have p0 : W7.cell? ⟨w5.heap.size, 0, none⟩ = some (.int .i64 0) := (i5.cells _ _ (by omega)).trans (by rw [hW5]; simp)
    have p1 : W7.cell? ⟨w5.heap.size, 1, none⟩ = some (.slice none 0 0) := (i5.cells _ _ (by omega)).trans (by rw [hW5]; simp)
    have pfr : ∀ o, W7.frozen? ⟨w5.heap.size, o, none⟩ = false := fun o => (i5.frozens _ o (by omega)).trans (by rw [hW5]; simp)
    have ps : w5.heap.size < W7.heap.size := by omega
    have b0 : W7.cell? ⟨w5.heap.size + 1 + 1, 0, none⟩ = some (.int .i64 3) := (i3.cells _ _ (by omega)).trans (by rw [hZ3, ← s2]; simp)
    have b1 : W7.cell? ⟨w5.heap.size + 1 + 1, 1, none⟩ = some (.slice (some ⟨w5.heap.size + 1, 0, none⟩) nn cp) := (i3.cells _ _ (by omega)).trans (by rw [hZ3, ← s2]; simp)
    have bfr : ∀ o, W7.frozen? ⟨w5.heap.size + 1 + 1, o, none⟩ = false := fun o => (i3.frozens _ o (by omega)).trans (by rw [hZ3, ← s2]; simp)
    have bs : w5.heap.size + 1 + 1 < W7.heap.size := by omega
    have x0 := (i0.cells _ _ xs).trans x0
    have x1 := (i0.cells _ _ xs).trans x1
    have x2 := (i0.cells _ _ xs).trans x2
    have x3 := (i0.cells _ _ xs).trans x3
    have hrp : w.heap.size + 1 < w5.heap.size := xs
    have xs := Nat.lt_of_lt_of_le xs i0.size
    have hq7 := hq5.trans i0
    have hp5 : W0.heap.size ≤ w5.heap.size := hq5.size
    have hb5 : W0.heap.size ≤ w5.heap.size + 1 + 1 := by omega
    have HE := Lib.hid (And.intro hW5 (And.intro hcp (And.intro hCC (And.intro hZ2 (And.intro hZ3 hW7)))))
    clear hW5 hcp hCC hZ2 hZ3 hW7 s5 s2 s3 i3 i2 i5 i0 hq5
    have hrr : Hid (w.heap.size + 1 < w5.heap.size) := Lib.hid hrp
    go_wp2_with fail
    rw [← HE.out.1, HE.out.2.1, HE.out.2.2.1, ← HE.out.2.2.2.1, ← HE.out.2.2.2.2.1, ← HE.out.2.2.2.2.2]
    refine (RNC.out W7 (some ⟨w5.heap.size + 1, 0, none⟩) cp hge hsb).mono ?_; rintro e8 w8 ⟨rfl, h8⟩
    have p0 := (h8.cells _ _ ps).trans p0
    have p1 := (h8.cells _ _ ps).trans p1
    have pfr := fun o => (h8.frozens _ o ps).trans (pfr o)
    have ps := Nat.lt_of_lt_of_le ps h8.size
    have b0 := (h8.cells _ _ bs).trans b0
    have b1 := (h8.cells _ _ bs).trans b1
    have bfr := fun o => (h8.frozens _ o bs).trans (bfr o)
    have bs := Nat.lt_of_lt_of_le bs h8.size
    have x0 := (h8.cells _ _ xs).trans x0
    have x1 := (h8.cells _ _ xs).trans x1
    have x2 := (h8.cells _ _ xs).trans x2
    have x3 := (h8.cells _ _ xs).trans x3
    have xs := Nat.lt_of_lt_of_le xs h8.size
    have hq8 := hq7.trans h8
    have hsb8 := hsb.of h8
    have v1 : (cn != 0) = true := bne_iff_ne.2 hcn0
    obtain ⟨W8, hW8⟩ : ∃ W, W = (w8.setCell ⟨w5.heap.size + 1 + 1, 0, none⟩ (.int .i64 0)).setCell ⟨w5.heap.size + 1 + 1, 1, none⟩ (.slice none 0 0) := ⟨_, rfl⟩
    have zW8 : W8.heap.size = w8.heap.size := by rw [hW8]; simp [World.setCell]
    have x0 := (show W8.cell? ⟨w.heap.size + 1, 0, none⟩ = w8.cell? ⟨w.heap.size + 1, 0, none⟩ by rw [hW8, World.cell?_setCell_other _ _ _ _ (by first | (simp; done) | (simp; omega)), World.cell?_setCell_other _ _ _ _ (by first | (simp; done) | (simp; omega))]).trans x0
    have x1 := (show W8.cell? ⟨w.heap.size + 1, 1, none⟩ = w8.cell? ⟨w.heap.size + 1, 1, none⟩ by rw [hW8, World.cell?_setCell_other _ _ _ _ (by first | (simp; done) | (simp; omega)), World.cell?_setCell_other _ _ _ _ (by first | (simp; done) | (simp; omega))]).trans x1
    have x2 := (show W8.cell? ⟨w.heap.size + 1, 2, none⟩ = w8.cell? ⟨w.heap.size + 1, 2, none⟩ by rw [hW8, World.cell?_setCell_other _ _ _ _ (by first | (simp; done) | (simp; omega)), World.cell?_setCell_other _ _ _ _ (by first | (simp; done) | (simp; omega))]).trans x2
    have x3 := (show W8.cell? ⟨w.heap.size + 1, 3, none⟩ = w8.cell? ⟨w.heap.size + 1, 3, none⟩ by rw [hW8, World.cell?_setCell_other _ _ _ _ (by first | (simp; done) | (simp; omega)), World.cell?_setCell_other _ _ _ _ (by first | (simp; done) | (simp; omega))]).trans x3
    have p0 := (show W8.cell? ⟨w5.heap.size, 0, none⟩ = w8.cell? ⟨w5.heap.size, 0, none⟩ by rw [hW8, World.cell?_setCell_other _ _ _ _ (by first | (simp; done) | (simp; omega)), World.cell?_setCell_other _ _ _ _ (by first | (simp; done) | (simp; omega))]).trans p0
    have p1 := (show W8.cell? ⟨w5.heap.size, 1, none⟩ = w8.cell? ⟨w5.heap.size, 1, none⟩ by rw [hW8, World.cell?_setCell_other _ _ _ _ (by first | (simp; done) | (simp; omega)), World.cell?_setCell_other _ _ _ _ (by first | (simp; done) | (simp; omega))]).trans p1
    have b0 : W8.cell? ⟨w5.heap.size + 1 + 1, 0, none⟩ = some (.int .i64 0) := by rw [hW8, World.cell?_setCell_other _ _ _ _ (by simp)]; exact World.cell?_setCell_same _ _ _ b0
    have b1 : W8.cell? ⟨w5.heap.size + 1 + 1, 1, none⟩ = some (.slice none 0 0) := by rw [hW8]; exact World.cell?_setCell_same _ _ _ ((World.cell?_setCell_other _ _ _ _ (by simp)).trans b1)
    have bfr : ∀ o, W8.frozen? ⟨w5.heap.size + 1 + 1, o, none⟩ = false := by intro o; rw [hW8, World.frozen?_setCell, World.frozen?_setCell]; exact bfr o
    have bs : w5.heap.size + 1 + 1 < W8.heap.size := by rw [zW8]; exact bs
    have xs : w.heap.size + 1 < W8.heap.size := by rw [zW8]; exact xs
    have pfr : ∀ o, W8.frozen? ⟨w5.heap.size, o, none⟩ = false := by intro o; rw [hW8, World.frozen?_setCell, World.frozen?_setCell]; exact pfr o
    have ps : w5.heap.size < W8.heap.size := by rw [zW8]; exact ps
    have bW8 : But (w5.heap.size + 1 + 1) w8 W8 := by rw [hW8]; exact ((But.refl (w5.heap.size + 1 + 1) w8).set (p := ⟨w5.heap.size + 1 + 1, 0, none⟩) (.inl rfl) _).set (p := ⟨w5.heap.size + 1 + 1, 1, none⟩) (.inl rfl) _
    have hq9' : Within W0 W8 := by rw [hW8]; exact (hq8.setCell hb5 _).setCell hb5 _
    have SM := Lib.hid (same_one W8 w8.heap.size zW8 0 none none 0 0 0 [] rfl (Nat.le_refl _) (Nat.le_refl _) (fun x hx => by cases hx) SlAt.nil SlAt.nil)
    have E8 := Lib.hid hW8; clear hW8 h8 hq7 hsb hsb8 s7 bW8 hq8
    go_wp2_with fail
    rw [← E8.out]
    refine SM.out.mono ?_; rintro e9 w9 ⟨rfl, h9⟩
    have hq8 := hq9'; clear hq9'
    have p0 := (h9.cells _ _ ps).trans p0
    have p1 := (h9.cells _ _ ps).trans p1
    have pfr := fun o => (h9.frozens _ o ps).trans (pfr o)
    have ps := Nat.lt_of_lt_of_le ps h9.size
    have b0 := (h9.cells _ _ bs).trans b0
    have b1 := (h9.cells _ _ bs).trans b1
    have bfr := fun o => (h9.frozens _ o bs).trans (bfr o)
    have bs := Nat.lt_of_lt_of_le bs h9.size
    have x0 := (h9.cells _ _ xs).trans x0
    have x1 := (h9.cells _ _ xs).trans x1
    have x2 := (h9.cells _ _ xs).trans x2
    have x3 := (h9.cells _ _ xs).trans x3
    have xs := Nat.lt_of_lt_of_le xs h9.size
    have hq9 := hq8.trans h9
    clear h9 hq8 SM
    go_wp2_with fail
    refine (OF.out _ (by exact hq9)).mono ?_; rintro e10 w10 ⟨v10, rfl, hO10, h10⟩
    obtain ⟨A10, c10, rfl, _, hs10, _⟩ := hO10.form
    rw [LLN.out]
    have x0 := (h10.cells _ _ xs).trans x0
    have x1 := (h10.cells _ _ xs).trans x1
    have x2 := (h10.cells _ _ xs).trans x2
    have x3 := (h10.cells _ _ xs).trans x3
    have xs := Nat.lt_of_lt_of_le xs h10.size
    have p0 := (h10.cells _ _ ps).trans p0
    have p1 := (h10.cells _ _ ps).trans p1
    have pfr := fun o => (h10.frozens _ o ps).trans (pfr o)
    have ps := Nat.lt_of_lt_of_le ps h10.size
    have b0 := (h10.cells _ _ bs).trans b0
    have b1 := (h10.cells _ _ bs).trans b1
    have bfr := fun o => (h10.frozens _ o bs).trans (bfr o)
    have bs := Nat.lt_of_lt_of_le bs h10.size
    have hq10 := hq9.trans h10
    have hb10 := ps
    have hbb10 := bs
    go_wp2_with fail
    refine (RDG.out _ A10 c10 hq10 hs10).mono ?_; rintro e11 w11 ⟨k11, v11, rfl, hk11, hO11, h11⟩
    obtain ⟨A11, c11, rfl, hc11, _, _⟩ := hO11.form
    rw [PLN.out] at hO11 hc11 ⊢
    have hbl11 : ∀ ad, A11 = some ad → w10.heap.size ≤ ad.block := fun ad e => (hO11.lt ad.block (by rw [e]; rfl)).1
    have x0 := (h11.cells _ _ xs).trans x0
    have x1 := (h11.cells _ _ xs).trans x1
    have x2 := (h11.cells _ _ xs).trans x2
    have x3 := (h11.cells _ _ xs).trans x3
    have xs := Nat.lt_of_lt_of_le xs h11.size
    have p0 := (h11.cells _ _ ps).trans p0
    have p1 := (h11.cells _ _ ps).trans p1
    have pfr := fun o => (h11.frozens _ o ps).trans (pfr o)
    have ps := Nat.lt_of_lt_of_le ps h11.size
    have b0 := (h11.cells _ _ bs).trans b0
    have b1 := (h11.cells _ _ bs).trans b1
    have bfr := fun o => (h11.frozens _ o bs).trans (bfr o)
    have bs := Nat.lt_of_lt_of_le bs h11.size
    have hq11 := hq10.trans h11
    have HK11 := Lib.hid hk11; clear hk11
    obtain ⟨W11, hW11⟩ : ∃ W, W = (w11.setCell ⟨w5.heap.size, 0, none⟩ (.int .i64 k11)).setCell ⟨w5.heap.size, 1, none⟩ (.slice A11 pn c11) := ⟨_, rfl⟩
    have zW11 : W11.heap.size = w11.heap.size := by rw [hW11]; simp [World.setCell]
    have x0 := (show W11.cell? ⟨w.heap.size + 1, 0, none⟩ = w11.cell? ⟨w.heap.size + 1, 0, none⟩ by rw [hW11, World.cell?_setCell_other _ _ _ _ (by first | (simp; done) | (simp; omega)), World.cell?_setCell_other _ _ _ _ (by first | (simp; done) | (simp; omega))]).trans x0
    have x1 := (show W11.cell? ⟨w.heap.size + 1, 1, none⟩ = w11.cell? ⟨w.heap.size + 1, 1, none⟩ by rw [hW11, World.cell?_setCell_other _ _ _ _ (by first | (simp; done) | (simp; omega)), World.cell?_setCell_other _ _ _ _ (by first | (simp; done) | (simp; omega))]).trans x1
    have x2 := (show W11.cell? ⟨w.heap.size + 1, 2, none⟩ = w11.cell? ⟨w.heap.size + 1, 2, none⟩ by rw [hW11, World.cell?_setCell_other _ _ _ _ (by first | (simp; done) | (simp; omega)), World.cell?_setCell_other _ _ _ _ (by first | (simp; done) | (simp; omega))]).trans x2
    have x3 := (show W11.cell? ⟨w.heap.size + 1, 3, none⟩ = w11.cell? ⟨w.heap.size + 1, 3, none⟩ by rw [hW11, World.cell?_setCell_other _ _ _ _ (by first | (simp; done) | (simp; omega)), World.cell?_setCell_other _ _ _ _ (by first | (simp; done) | (simp; omega))]).trans x3
    have b0 := (show W11.cell? ⟨w5.heap.size + 1 + 1, 0, none⟩ = w11.cell? ⟨w5.heap.size + 1 + 1, 0, none⟩ by rw [hW11, World.cell?_setCell_other _ _ _ _ (by first | (simp; done) | (simp; omega)), World.cell?_setCell_other _ _ _ _ (by first | (simp; done) | (simp; omega))]).trans b0
    have b1 := (show W11.cell? ⟨w5.heap.size + 1 + 1, 1, none⟩ = w11.cell? ⟨w5.heap.size + 1 + 1, 1, none⟩ by rw [hW11, World.cell?_setCell_other _ _ _ _ (by first | (simp; done) | (simp; omega)), World.cell?_setCell_other _ _ _ _ (by first | (simp; done) | (simp; omega))]).trans b1
    have p0 : W11.cell? ⟨w5.heap.size, 0, none⟩ = some (.int .i64 k11) := by rw [hW11, World.cell?_setCell_other _ _ _ _ (by simp)]; exact World.cell?_setCell_same _ _ _ p0
    have p1 : W11.cell? ⟨w5.heap.size, 1, none⟩ = some (.slice A11 pn c11) := by rw [hW11]; exact World.cell?_setCell_same _ _ _ ((World.cell?_setCell_other _ _ _ _ (by simp)).trans p1)
    have pfr : ∀ o, W11.frozen? ⟨w5.heap.size, o, none⟩ = false := by intro o; rw [hW11, World.frozen?_setCell, World.frozen?_setCell]; exact pfr o
    have ps : w5.heap.size < W11.heap.size := by rw [zW11]; exact ps
    have xs : w.heap.size + 1 < W11.heap.size := by rw [zW11]; exact xs
    have bfr : ∀ o, W11.frozen? ⟨w5.heap.size + 1 + 1, o, none⟩ = false := by intro o; rw [hW11, World.frozen?_setCell, World.frozen?_setCell]; exact bfr o
    have bs : w5.heap.size + 1 + 1 < W11.heap.size := by rw [zW11]; exact bs
    have bW11 : But (w5.heap.size) w11 W11 := by rw [hW11]; exact ((But.refl (w5.heap.size) w11).set (p := ⟨w5.heap.size, 0, none⟩) (.inl rfl) _).set (p := ⟨w5.heap.size, 1, none⟩) (.inl rfl) _
    have hw11 : Within W0 W11 := by rw [hW11]; exact (hq11.setCell hp5 _).setCell hp5 _
    have hO11' := hO11.but bW11 hb10
    have E11 := Lib.hid hW11; clear hW11 hs10 hO10 h10 h11 hO11 bW11 hq10 hq11
    obtain ⟨B11, d11, e11', _, hs11, _⟩ := hO11'.form
    rw [PLN.out] at e11'
    obtain ⟨rfl, _, rfl⟩ := Value.slice.inj e11'
    clear hO11' e11'
    go_wp2_with fail
    rw [← E11.out]
    refine (OF.out _ (by exact hw11)).mono ?_; rintro e12 w12 ⟨v12, rfl, hO12, h12⟩
    obtain ⟨A12, c12, rfl, _, hs12, _⟩ := hO12.form
    rw [LLN.out]
    have x0 := (h12.cells _ _ xs).trans x0
    have x1 := (h12.cells _ _ xs).trans x1
    have x2 := (h12.cells _ _ xs).trans x2
    have x3 := (h12.cells _ _ xs).trans x3
    have xs := Nat.lt_of_lt_of_le xs h12.size
    have p0 := (h12.cells _ _ ps).trans p0
    have p1 := (h12.cells _ _ ps).trans p1
    have pfr := fun o => (h12.frozens _ o ps).trans (pfr o)
    have ps := Nat.lt_of_lt_of_le ps h12.size
    have b0 := (h12.cells _ _ bs).trans b0
    have b1 := (h12.cells _ _ bs).trans b1
    have bfr := fun o => (h12.frozens _ o bs).trans (bfr o)
    have bs := Nat.lt_of_lt_of_le bs h12.size
    have hbb12 := bs
    go_wp2_with fail
    refine (RPK.out _ A12 c12 hs12).mono ?_; rintro e13 w13 ⟨v13, rfl, hO13, h13⟩
    obtain ⟨A13, c13, rfl, hc13, hs13, _⟩ := hO13.form
    rw [PLN.out] at hc13 hO13 ⊢
    have x0 := (h13.cells _ _ xs).trans x0
    have x1 := (h13.cells _ _ xs).trans x1
    have x2 := (h13.cells _ _ xs).trans x2
    have x3 := (h13.cells _ _ xs).trans x3
    have xs := Nat.lt_of_lt_of_le xs h13.size
    have p0 := (h13.cells _ _ ps).trans p0
    have p1 := (h13.cells _ _ ps).trans p1
    have pfr := fun o => (h13.frozens _ o ps).trans (pfr o)
    have ps := Nat.lt_of_lt_of_le ps h13.size
    have b0 := (h13.cells _ _ bs).trans b0
    have b1 := (h13.cells _ _ bs).trans b1
    have bfr := fun o => (h13.frozens _ o bs).trans (bfr o)
    have bs := Nat.lt_of_lt_of_le bs h13.size
    have hq13 := hw11.trans (h12.trans h13)
    have hs11' := hs11.of (h12.trans h13)
    obtain ⟨W13, hW13⟩ : ∃ W, W = (w13.setCell ⟨w5.heap.size + 1 + 1, 0, none⟩ (.int .i64 1)).setCell ⟨w5.heap.size + 1 + 1, 1, none⟩ (.slice A13 pn c13) := ⟨_, rfl⟩
    have zW13 : W13.heap.size = w13.heap.size := by rw [hW13]; simp [World.setCell]
    have x0 := (show W13.cell? ⟨w.heap.size + 1, 0, none⟩ = w13.cell? ⟨w.heap.size + 1, 0, none⟩ by rw [hW13, World.cell?_setCell_other _ _ _ _ (by first | (simp; done) | (simp; omega)), World.cell?_setCell_other _ _ _ _ (by first | (simp; done) | (simp; omega))]).trans x0
    have x1 := (show W13.cell? ⟨w.heap.size + 1, 1, none⟩ = w13.cell? ⟨w.heap.size + 1, 1, none⟩ by rw [hW13, World.cell?_setCell_other _ _ _ _ (by first | (simp; done) | (simp; omega)), World.cell?_setCell_other _ _ _ _ (by first | (simp; done) | (simp; omega))]).trans x1
    have x2 := (show W13.cell? ⟨w.heap.size + 1, 2, none⟩ = w13.cell? ⟨w.heap.size + 1, 2, none⟩ by rw [hW13, World.cell?_setCell_other _ _ _ _ (by first | (simp; done) | (simp; omega)), World.cell?_setCell_other _ _ _ _ (by first | (simp; done) | (simp; omega))]).trans x2
    have x3 := (show W13.cell? ⟨w.heap.size + 1, 3, none⟩ = w13.cell? ⟨w.heap.size + 1, 3, none⟩ by rw [hW13, World.cell?_setCell_other _ _ _ _ (by first | (simp; done) | (simp; omega)), World.cell?_setCell_other _ _ _ _ (by first | (simp; done) | (simp; omega))]).trans x3
    have p0 := (show W13.cell? ⟨w5.heap.size, 0, none⟩ = w13.cell? ⟨w5.heap.size, 0, none⟩ by rw [hW13, World.cell?_setCell_other _ _ _ _ (by first | (simp; done) | (simp; omega)), World.cell?_setCell_other _ _ _ _ (by first | (simp; done) | (simp; omega))]).trans p0
    have p1 := (show W13.cell? ⟨w5.heap.size, 1, none⟩ = w13.cell? ⟨w5.heap.size, 1, none⟩ by rw [hW13, World.cell?_setCell_other _ _ _ _ (by first | (simp; done) | (simp; omega)), World.cell?_setCell_other _ _ _ _ (by first | (simp; done) | (simp; omega))]).trans p1
    have b0 : W13.cell? ⟨w5.heap.size + 1 + 1, 0, none⟩ = some (.int .i64 1) := by rw [hW13, World.cell?_setCell_other _ _ _ _ (by simp)]; exact World.cell?_setCell_same _ _ _ b0
    have b1 : W13.cell? ⟨w5.heap.size + 1 + 1, 1, none⟩ = some (.slice A13 pn c13) := by rw [hW13]; exact World.cell?_setCell_same _ _ _ ((World.cell?_setCell_other _ _ _ _ (by simp)).trans b1)
    have bfr : ∀ o, W13.frozen? ⟨w5.heap.size + 1 + 1, o, none⟩ = false := by intro o; rw [hW13, World.frozen?_setCell, World.frozen?_setCell]; exact bfr o
    have bs : w5.heap.size + 1 + 1 < W13.heap.size := by rw [zW13]; exact bs
    have xs : w.heap.size + 1 < W13.heap.size := by rw [zW13]; exact xs
    have pfr : ∀ o, W13.frozen? ⟨w5.heap.size, o, none⟩ = false := by intro o; rw [hW13, World.frozen?_setCell, World.frozen?_setCell]; exact pfr o
    have ps : w5.heap.size < W13.heap.size := by rw [zW13]; exact ps
    have bW13 : But (w5.heap.size + 1 + 1) w13 W13 := by rw [hW13]; exact ((But.refl (w5.heap.size + 1 + 1) w13).set (p := ⟨w5.heap.size + 1 + 1, 0, none⟩) (.inl rfl) _).set (p := ⟨w5.heap.size + 1 + 1, 1, none⟩) (.inl rfl) _
    have hw13 : Within W0 W13 := by rw [hW13]; exact (hq13.setCell hb5 _).setCell hb5 _
    have hs13b := hs13.but bW13 (fun ad e => by have := (hO13.lt ad.block (by rw [e]; rfl)).1; omega)
    have hs11b := hs11'.but bW13 (fun ad e => by have h1 := hbl11 ad e; omega)
    have E13 := Lib.hid hW13; have HS13 := Lib.hid hs13b; have HS11 := Lib.hid hs11b; have HW13 := Lib.hid hw13; clear hW13 hs13b hs11b hs11 hs11' hs13 hs12 hO12 hO13 h12 h13 hq13 bW13 hw11 hw13
    have ev : (cv == cv) = true := by simp
    go_upto_region 13 with fail
    rw [← E13.out]
    by_cases hv0 : cv = 0
    · subst hv0
      obtain rfl : k11 = 1 := by rw [HK11.out, if_pos rfl]
      have SM2 := Lib.hid (same_one W13 w13.heap.size zW13 1 A11 A13 c11 c13 pn pl PLN.out hc11 hc13 PLB.out HS11.out HS13.out)
      have hw13 := HW13.out
      go_wp2_with fail
      refine SM2.out.mono ?_; rintro e14 w14 ⟨rfl, h14⟩
      have hq14 := hw13.trans h14
      clear h14 SM2
      go_wp2_with fail
      refine (RDS.out _ hq14).mono ?_; rintro e15 w15 ⟨v15, rfl, hO15, h15⟩
      obtain ⟨A15, c15, rfl, _, hR15, _⟩ := hO15.at
      have hq15 := hq14.trans h15
      go_wp2_with fail
      refine (RRD.out _ hq15).mono ?_; rintro e16 w16 ⟨v16, rfl, hO16, h16⟩
      obtain ⟨A16, c16, rfl, _, hR16, _⟩ := hO16.at
      have hq16 := hq15.trans h16
      have SA := Lib.hid (Rsameall_any A15 A16 c15 c16 rv RVL.out RVV.out w16 (hR15.of h16) hR16)
      clear hO15 hR15 hO16 hR16 h15 h16
      go_wp2_with fail
      refine SA.out.mono ?_; rintro e17 w17 ⟨rfl, h17⟩
      have hq17 := HI.out.trans (hq16.trans h17)
      clear h17 SA
      go_wp2
      go_ret
      exact ⟨rfl, hq17⟩
    · have v2 : (cv != 0) = true := bne_iff_ne.2 hv0
      obtain rfl : k11 = 0 := by rw [HK11.out, if_neg hv0]
      have hpl0 := HNO.out hv0
      obtain rfl : pn = 0 := by rw [← PLN.out, hpl0]; rfl
      clear hpl0
      obtain ⟨W14, hW14⟩ : ∃ W, W = (W13.setCell ⟨w5.heap.size + 1 + 1, 0, none⟩ (.int .i64 0)).setCell ⟨w5.heap.size + 1 + 1, 1, none⟩ (.slice none 0 0) := ⟨_, rfl⟩
      have zW14 : W14.heap.size = W13.heap.size := by rw [hW14]; simp [World.setCell]
      have x0 := (show W14.cell? ⟨w.heap.size + 1, 0, none⟩ = W13.cell? ⟨w.heap.size + 1, 0, none⟩ by rw [hW14, World.cell?_setCell_other _ _ _ _ (by first | (simp; done) | (simp; omega)), World.cell?_setCell_other _ _ _ _ (by first | (simp; done) | (simp; omega))]).trans x0
      have x1 := (show W14.cell? ⟨w.heap.size + 1, 1, none⟩ = W13.cell? ⟨w.heap.size + 1, 1, none⟩ by rw [hW14, World.cell?_setCell_other _ _ _ _ (by first | (simp; done) | (simp; omega)), World.cell?_setCell_other _ _ _ _ (by first | (simp; done) | (simp; omega))]).trans x1
      have x2 := (show W14.cell? ⟨w.heap.size + 1, 2, none⟩ = W13.cell? ⟨w.heap.size + 1, 2, none⟩ by rw [hW14, World.cell?_setCell_other _ _ _ _ (by first | (simp; done) | (simp; omega)), World.cell?_setCell_other _ _ _ _ (by first | (simp; done) | (simp; omega))]).trans x2
      have x3 := (show W14.cell? ⟨w.heap.size + 1, 3, none⟩ = W13.cell? ⟨w.heap.size + 1, 3, none⟩ by rw [hW14, World.cell?_setCell_other _ _ _ _ (by first | (simp; done) | (simp; omega)), World.cell?_setCell_other _ _ _ _ (by first | (simp; done) | (simp; omega))]).trans x3
      have p0 := (show W14.cell? ⟨w5.heap.size, 0, none⟩ = W13.cell? ⟨w5.heap.size, 0, none⟩ by rw [hW14, World.cell?_setCell_other _ _ _ _ (by first | (simp; done) | (simp; omega)), World.cell?_setCell_other _ _ _ _ (by first | (simp; done) | (simp; omega))]).trans p0
      have p1 := (show W14.cell? ⟨w5.heap.size, 1, none⟩ = W13.cell? ⟨w5.heap.size, 1, none⟩ by rw [hW14, World.cell?_setCell_other _ _ _ _ (by first | (simp; done) | (simp; omega)), World.cell?_setCell_other _ _ _ _ (by first | (simp; done) | (simp; omega))]).trans p1
      have b0 : W14.cell? ⟨w5.heap.size + 1 + 1, 0, none⟩ = some (.int .i64 0) := by rw [hW14, World.cell?_setCell_other _ _ _ _ (by simp)]; exact World.cell?_setCell_same _ _ _ b0
      have b1 : W14.cell? ⟨w5.heap.size + 1 + 1, 1, none⟩ = some (.slice none 0 0) := by rw [hW14]; exact World.cell?_setCell_same _ _ _ ((World.cell?_setCell_other _ _ _ _ (by simp)).trans b1)
      have bfr : ∀ o, W14.frozen? ⟨w5.heap.size + 1 + 1, o, none⟩ = false := by intro o; rw [hW14, World.frozen?_setCell, World.frozen?_setCell]; exact bfr o
      have bs : w5.heap.size + 1 + 1 < W14.heap.size := by rw [zW14]; exact bs
      have xs : w.heap.size + 1 < W14.heap.size := by rw [zW14]; exact xs
      have pfr : ∀ o, W14.frozen? ⟨w5.heap.size, o, none⟩ = false := by intro o; rw [hW14, World.frozen?_setCell, World.frozen?_setCell]; exact pfr o
      have ps : w5.heap.size < W14.heap.size := by rw [zW14]; exact ps
      have bW14 : But (w5.heap.size + 1 + 1) W13 W14 := by rw [hW14]; exact ((But.refl (w5.heap.size + 1 + 1) W13).set (p := ⟨w5.heap.size + 1 + 1, 0, none⟩) (.inl rfl) _).set (p := ⟨w5.heap.size + 1 + 1, 1, none⟩) (.inl rfl) _
      have hw14 : Within W0 W14 := by rw [hW14]; exact (HW13.out.setCell hb5 _).setCell hb5 _
      have SM2 := Lib.hid (same_one W14 w13.heap.size (zW14.trans zW13) 0 A11 none c11 0 0 [] rfl hc11 (Nat.le_refl _) (fun x hx => by cases hx) SlAt.nil SlAt.nil)
      have E14 := Lib.hid hW14; clear hW14 bW14
      go_wp2_with fail
      rw [← E14.out]
      refine SM2.out.mono ?_; rintro e14 w14 ⟨rfl, h14⟩
      have hq14 := hw14.trans h14
      clear h14 SM2
      go_wp2_with fail
      refine (RDS.out _ hq14).mono ?_; rintro e15 w15 ⟨v15, rfl, hO15, h15⟩
      obtain ⟨A15, c15, rfl, _, hR15, _⟩ := hO15.at
      have hq15 := hq14.trans h15
      go_wp2_with fail
      refine (RRD.out _ hq15).mono ?_; rintro e16 w16 ⟨v16, rfl, hO16, h16⟩
      obtain ⟨A16, c16, rfl, _, hR16, _⟩ := hO16.at
      have hq16 := hq15.trans h16
      have SA := Lib.hid (Rsameall_any A15 A16 c15 c16 rv RVL.out RVV.out w16 (hR15.of h16) hR16)
      clear hO15 hR15 hO16 hR16 h15 h16
      go_wp2_with fail
      refine SA.out.mono ?_; rintro e17 w17 ⟨rfl, h17⟩
      have hq17 := HI.out.trans (hq16.trans h17)
      clear h17 SA
      go_wp2
      go_ret
      exact ⟨rfl, hq17⟩

end Go.Proofs.YtpmjlaiafgbjgaaDoor
end

section
namespace Go.Proofs.YtpmjlaiafgbjgaaDoor.Base
open Go.ChangeShapes Go.WideShapes Go.ChangeAt Go.RowKit

theorem own : ownKnob Tryd.prog.godebug = none := by kernel_rfl
theorem laidOut : laidOutB Tryd.prog = true := by kernel_rfl
theorem gS : Tryd.prog.globalNamed "binnacle/convert.single" = some 1 := by kernel_rfl
theorem gST : (Tryd.prog.globals[1]?).map (·.type) = some 148 := by kernel_rfl
theorem cellsI : Tryd.prog.cellsOf 3 = 1 := by kernel_rfl

theorem fmt_cells {W : World} {name : String} {g : Nat} {a b c : Int} {rest : List (String × DataW Unit)} {ps : List MemPlace}
    (hg : Tryd.prog.globalNamed name = some g) (hty : (Tryd.prog.globals[g]?).map (·.type) = some 148)
    (h : DataW.LaidVars Tryd.prog W ((name, .agg [.lit (.int .i64 a), .lit (.int .i64 b), .lit (.int .i64 c)]) :: rest) ps) :
    (W.cell? ⟨g, 0, none⟩ = some (.int .i64 a) ∧ W.cell? ⟨g, 1, none⟩ = some (.int .i64 b) ∧ W.cell? ⟨g, 2, none⟩ = some (.int .i64 c)) ∧ ∃ q, DataW.LaidVars Tryd.prog W rest q := by
  obtain ⟨g', t', cs, fuel, p, q, hg', ht', hvar, hd, hr, _⟩ := h
  obtain rfl := Option.some.inj (hg.symm.trans hg')
  obtain rfl := Option.some.inj (hty.symm.trans ht')
  obtain ⟨y0, y1, y2, n, hx, hl, h0, h1, h2⟩ := Go.Deep.trod_struct3 Tryd.underlying148 hd
  obtain ⟨c0, e0, x0, _⟩ := DataW.trod_int Tryd.underlying3 h0
  obtain ⟨c1, e1, x1, _⟩ := DataW.trod_int Tryd.underlying3 h1
  obtain ⟨c2, e2, x2, _⟩ := DataW.trod_int Tryd.underlying3 h2
  subst x0 x1 x2
  have hx1 := congrArg Prod.fst hx
  simp at hx1
  obtain ⟨rfl, rfl, rfl⟩ := hx1
  have v := World.var?_cell hg hvar
  refine ⟨⟨?_, ?_, ?_⟩, q, hr⟩
  · rw [v 0]
    have := congrArg (·[0]?) e0
    simpa [cellsI, List.getElem?_take, List.getElem?_drop] using this
  · rw [v 1]
    have := congrArg (·[0]?) e1
    simpa [cellsI, List.getElem?_take, List.getElem?_drop] using this
  · rw [v 2]
    have := congrArg (·[0]?) e2
    simpa [cellsI, List.getElem?_take, List.getElem?_drop] using this

theorem fmS {W : World} {rest : List (String × DataW Unit)} (h : laidMet Tryd.prog (("binnacle/convert.single", Rows.laid_binnacle_convert_single) :: rest) W) : FmS W := by
  obtain ⟨ps, h1, _⟩ := h
  exact (fmt_cells gS gST h1).1
theorem nat_of_u32 {n : Int} (h : (Lit.int .u32 n).wf = true) : ∃ a : Nat, n = a ∧ a < 4294967296 := by
  simp only [Lit.wf, Bool.and_eq_true, decide_eq_true_eq] at h
  have h1 : (0 : Int) ≤ n := h.1
  have h2 : n ≤ 4294967295 := h.2
  exact ⟨n.toNat, by omega, by omega⟩
theorem int_of_i64 {n : Int} (h : (Lit.int .i64 n).wf = true) : -9223372036854775808 ≤ n ∧ n < 9223372036854775808 := by
  simp only [Lit.wf, Bool.and_eq_true, decide_eq_true_eq] at h
  have h1 : (-9223372036854775808 : Int) ≤ n := h.1
  have h2 : n ≤ 9223372036854775807 := h.2
  exact ⟨h1, by omega⟩

/-- a variable's cells, as its initialiser lays them -/
def layVar (g : Nat) (cs : Array Value) (h : Array Obj) : Array Obj := h.modify g fun
  | .cells _ t frozen => .cells cs t frozen
  | o => o
/-- a world for the witness: the settled one, the format as its initialiser lays it -/
noncomputable def laidWorld (os : Os) : World :=
  { World.holding Tryd.prog os ⟨#[], #[], []⟩ with heap := layVar 1 #[.int .i64 24, .int .i64 (-126), .int .i64 127] (World.holding Tryd.prog os ⟨#[], #[], []⟩).heap }

section
variable {H : Type} {enc : TypeId × Value → H} {W : World}
/-- a slice of whole numbers opened, nil or not -/
theorem open_ns {t e : TypeId} {k : IntKind} {y : Nat} (ht : Tryd.prog.underlying t = some (.slice e)) (he : Tryd.prog.underlying e = some (.int k)) (hc : Tryd.prog.cellsOf e = 1) (hy : Tryd.prog.bytesOf e = y) {fuel : Nat} {v : Value} {x : DataW H × List MemPlace}
    (h : DataW.trod enc Tryd.prog W 0 (fun _ => true) true fuel t [v] = some x) (hz : ∀ n ∈ x.1.weights Tryd.prog t, n ≤ reachBytes) :
    ∃ (a0 : Option Addr) (cap : Nat) (zs : List Int), v = .slice a0 zs.length cap ∧ zs.length ≤ cap ∧ zs.length * y ≤ reachBytes ∧ (∀ n ∈ zs, (Lit.int k n).wf = true) ∧ SlAt W a0 (zs.map (Value.int k)) := by
  rcases open_ints ht he hc h with ⟨hcs, hx⟩ | ⟨a, len, cap, zs, hcs, _, hl, hm, hzl, hx, hcell, hwz⟩
  · simp at hcs
    exact ⟨none, 0, [], hcs, Nat.le_refl _, by simp, (fun n hn => absurd hn (by simp)), SlAt.nil⟩
  · simp at hcs
    simp only [if_true] at hzl
    subst hx
    have hlen : (zs.take len).length = len := by rw [List.length_take]; omega
    refine ⟨some a, cap, zs.take len, by rw [hlen]; exact hcs, by rw [hlen]; exact hl, ?_, fun n hn => hwz n (List.mem_of_mem_take hn), fun hn => ?_⟩
    · have hw := hz (cap * y) (by
        rw [DataW.weights, ht]
        refine List.mem_cons.2 (.inl ?_)
        rw [hy, show (lits (H := H) k (zs.take len)).length + (lits (H := H) k (zs.drop len)).length = cap by
          unfold lits; rw [List.length_map, List.length_map, List.length_take, List.length_drop]; omega])
      rw [hlen]
      exact Nat.le_trans (Nat.mul_le_mul_right _ hl) hw
    · rw [List.length_map, hlen] at hn
      have h0 := hcell 0 (by omega)
      refine ⟨a, rfl, by have := World.block_lt_of_cell? _ _ h0; rwa [add_block] at this, fun j u hu => ?_⟩
      rw [List.getElem?_map, Option.map_eq_some_iff] at hu
      obtain ⟨z, hz1, rfl⟩ := hu
      obtain ⟨hj, hz2⟩ := List.getElem?_eq_some_iff.1 hz1
      rw [hlen] at hj
      rw [hcell j (by omega)]
      rw [List.getElem_take] at hz2
      simp [List.getD, List.getElem?_eq_getElem (show j < zs.length by omega), hz2]
theorem nats_of {k : IntKind} {m : Nat} (hk : ∀ n : Int, (Lit.int k n).wf = true → 0 ≤ n ∧ n < m) {zs : List Int} (h : ∀ n ∈ zs, (Lit.int k n).wf = true) : ∃ l : List Nat, zs = l.map (fun (x : Nat) => (x : Int)) ∧ ∀ x ∈ l, x < m := by
  refine ⟨zs.map Int.toNat, ?_, fun x hx => ?_⟩
  · rw [List.map_map]
    conv => lhs; rw [← List.map_id zs]
    refine List.map_congr_left fun n hn => ?_
    have := (hk n (h n hn)).1
    simp only [id, Function.comp]; omega
  · obtain ⟨n, hn, rfl⟩ := List.mem_map.1 hx
    have := hk n (h n hn)
    omega
theorem wf_u8 (n : Int) (h : (Lit.int .u8 n).wf = true) : 0 ≤ n ∧ n < (256 : Nat) := by
  simp only [Lit.wf, Bool.and_eq_true, decide_eq_true_eq] at h
  have h1 : (0 : Int) ≤ n := h.1
  have h2 : n ≤ 255 := h.2
  omega
theorem wf_u64 (n : Int) (h : (Lit.int .u64 n).wf = true) : 0 ≤ n ∧ n < (18446744073709551616 : Nat) := by
  simp only [Lit.wf, Bool.and_eq_true, decide_eq_true_eq] at h
  have h1 : (0 : Int) ≤ n := h.1
  have h2 : n ≤ 18446744073709551615 := h.2
  omega
set_option maxRecDepth 100000 in
theorem open_u8 {fuel : Nat} {v : Value} {x : DataW H × List MemPlace} (h : DataW.trod enc Tryd.prog W 0 (fun _ => true) true fuel 22 [v] = some x) (hz : ∀ n ∈ x.1.weights Tryd.prog 22, n ≤ reachBytes) :
    ∃ (a0 : Option Addr) (cap : Nat) (l : List Nat), v = .slice a0 l.length cap ∧ l.length ≤ cap ∧ l.length ≤ 140737488355328 ∧ Bytes l ∧ SlAt W a0 (u8v l) := by
  obtain ⟨a0, cap, zs, h1, h2, h3, h4, h5⟩ := open_ns (y := 1) Tryd.underlying22 Tryd.underlying5 (by kernel_rfl) (by kernel_rfl) h hz
  obtain ⟨l, rfl, hl⟩ := nats_of wf_u8 h4
  rw [List.length_map] at h1 h2 h3
  refine ⟨a0, cap, l, h1, h2, ?_, hl, ?_⟩
  · have : reachBytes = 140737488351232 := rfl
    omega
  · unfold u8v; rw [List.map_map] at h5; exact h5
set_option maxRecDepth 100000 in
theorem open_u64 {fuel : Nat} {v : Value} {x : DataW H × List MemPlace} (h : DataW.trod enc Tryd.prog W 0 (fun _ => true) true fuel 57 [v] = some x) (hz : ∀ n ∈ x.1.weights Tryd.prog 57, n ≤ reachBytes) :
    ∃ (a0 : Option Addr) (cap : Nat) (l : List Nat), v = .slice a0 l.length cap ∧ l.length ≤ cap ∧ l.length * 8 ≤ 140737488355328 ∧ (∀ x ∈ l, x < 18446744073709551616) ∧ SlAt W a0 (u64v l) := by
  obtain ⟨a0, cap, zs, h1, h2, h3, h4, h5⟩ := open_ns (y := 8) Tryd.underlying57 Tryd.underlying110 (by kernel_rfl) (by kernel_rfl) h hz
  obtain ⟨l, rfl, hl⟩ := nats_of wf_u64 h4
  rw [List.length_map] at h1 h2 h3
  refine ⟨a0, cap, l, h1, h2, ?_, hl, ?_⟩
  · have : reachBytes = 140737488351232 := rfl
    omega
  · unfold u64v; rw [List.map_map] at h5; exact h5
set_option maxRecDepth 100000 in
theorem open_bytes {r : Reach} {b0 : Nat} {v : Value} {d : DataW H} {p : List MemPlace} (hv : Value.okWide Tryd.prog W r b0 22 v) (h : DataW.Trod enc Tryd.prog W 0 (fun _ => true) true 22 v d p) (hz : ∀ n ∈ d.weights Tryd.prog 22, n ≤ reachBytes) :
    ∃ (a0 : Option Addr) (cap : Nat) (l : List Nat), v = .slice a0 l.length cap ∧ l.length ≤ cap ∧ l.length ≤ 140737488355328 ∧ Bytes l ∧ SlAt W a0 (u8v l) := by
  obtain ⟨a, len, cap, rfl⟩ := okWide_slice Tryd.underlying22 hv
  obtain ⟨fuel, hf⟩ := h
  exact open_u8 (x := (d, p)) (by simpa [Value.cells] using hf) hz
theorem rdCells : Tryd.prog.cellsOf 59 = 4 := by kernel_rfl
set_option maxRecDepth 100000 in
/-- a law's Reading opened -/
theorem open_rd {r : Reach} {b0 : Nat} {v : Value} {d : DataW H} {p : List MemPlace} (hv : Value.okWide Tryd.prog W r b0 59 v) (h : DataW.Trod enc Tryd.prog W 0 (fun _ => true) true 59 v d p)
    (hz : ∀ n ∈ d.weights Tryd.prog 59, n ≤ reachBytes) :
    ∃ (s : Int) (q t : Nat) (a0 : Option Addr) (cap : Nat) (l : List Nat), v = .agg #[.int .i64 s, .int .u32 (q : Int), .int .u32 (t : Int), .slice a0 l.length cap] ∧ q < 4294967296 ∧ t < 4294967296 ∧ l.length ≤ cap ∧ l.length * 8 ≤ 140737488355328 ∧ (∀ x ∈ l, x < 18446744073709551616) ∧ SlAt W a0 (u64v l) ∧ (-9223372036854775808 ≤ s ∧ s < 9223372036854775808) := by
  obtain ⟨v0, v1, v2, v3, y0, y1, y2, y3, n, rfl, rfl, rfl, h0, h1, h2, h3⟩ := Go.Joins.open_agg4 Tryd.underlying59 (by kernel_rfl) rdCells hv h
  obtain ⟨s, e0, x0, w0⟩ := DataW.trod_int Tryd.underlying3 h0
  obtain ⟨q, e1, x1, w1⟩ := DataW.trod_int Tryd.underlying56 h1
  obtain ⟨t, e2, x2, w2⟩ := DataW.trod_int Tryd.underlying56 h2
  obtain ⟨a0, cap, l, rfl, h4, h5, h6, h7⟩ := open_u64 h3 (fun n hn => hz n (by
    rw [DataW.weights, Tryd.underlying59]
    exact DataW.weights_mem_each (j := 3) rfl rfl n hn))
  simp at e0 e1 e2
  subst e0 e1 e2
  obtain ⟨q, rfl, hq⟩ := nat_of_u32 w1
  obtain ⟨t, rfl, ht⟩ := nat_of_u32 w2
  exact ⟨s, q, t, a0, cap, l, rfl, hq, ht, h4, h5, h6, h7, int_of_i64 w0⟩
theorem wt_of {ts : List TypeId} {ds : List (DataW H)} (h : (DataW.weightsEach Tryd.prog ts ds).all (· ≤ reachBytes) = true) {j : Nat} {t : TypeId} {d : DataW H} (ht : ts[j]? = some t) (hd : ds[j]? = some d) : ∀ n ∈ d.weights Tryd.prog t, n ≤ reachBytes :=
  fun n hn => of_decide_eq_true (List.all_eq_true.1 h n (DataW.weights_mem_each ht hd n hn))
end
end Go.Proofs.YtpmjlaiafgbjgaaDoor.Base
end

section
namespace Go.Proofs.YtpmjlaiafgbjgaaDoor.Base
open Go.ChangeShapes Go.WideShapes Go.ChangeAt Go.RowKit

section
variable {H : Type} {enc : TypeId × Value → H} {W : World}
theorem weightsAll_mem {P : Program} {e : TypeId} {d : DataW H} : ∀ {l : List (DataW H)}, d ∈ l → ∀ n ∈ d.weights P e, n ∈ DataW.weightsAll P e l
  | [], h, _, _ => by cases h
  | x :: r, h, n, hn => by
    rw [DataW.weightsAll, List.mem_append]
    rcases List.mem_cons.1 h with rfl | h
    · exact .inl hn
    · exact .inr (weightsAll_mem h n hn)
theorem chosen {α : Type} [Inhabited α] {m : Nat} {p : Nat → α → Prop} (h : ∀ i, i < m → ∃ v, p i v) : ∃ V : Nat → α, ∀ i, i < m → p i (V i) := by
  classical
  refine ⟨fun i => if hi : i < m then (h i hi).choose else default, fun i hi => ?_⟩
  simp only [dif_pos hi]
  exact (h i hi).choose_spec
set_option maxRecDepth 100000 in
theorem recCells : Tryd.prog.cellsOf 50 = 2 := by kernel_rfl
set_option maxRecDepth 100000 in
theorem recBytes : Tryd.prog.bytesOf 50 = 32 := by kernel_rfl
set_option maxRecDepth 100000 in
/-- a text -/
theorem open_text {r : Reach} {b0 : Nat} {v : Value} {d : DataW H} {p : List MemPlace} (hv : Value.okWide Tryd.prog W r b0 9 v) (h : DataW.Trod enc Tryd.prog W 0 (fun _ => true) true 9 v d p) (hz : ∀ n ∈ d.weights Tryd.prog 9, n ≤ reachBytes) : ∃ s : ByteArray, v = .string s ∧ s.size ≤ 140737488355328 := by
  obtain ⟨fuel, hf⟩ := h
  obtain ⟨s, hs, hx, _⟩ := DataW.trod_string Tryd.underlying9 hf
  obtain ⟨s', rfl⟩ := okWide_string Tryd.underlying9 hv
  obtain rfl : s' = s := by simpa [Value.cells] using hs
  refine ⟨s', rfl, ?_⟩
  have hd := congrArg Prod.fst hx
  simp only at hd
  subst hd
  have := hz s'.size (by rw [DataW.weights]; exact List.mem_singleton.2 (by rw [Array.length_toList]; rfl))
  have e : reachBytes = 140737488351232 := rfl
  omega
set_option maxRecDepth 100000 in
/-- a record -/
theorem open_rec {r : Reach} {b0 : Nat} {v : Value} {d : DataW H} {p : List MemPlace} (hv : Value.okWide Tryd.prog W r b0 50 v) (h : DataW.Trod enc Tryd.prog W 0 (fun _ => true) true 50 v d p)
    (hz : ∀ n ∈ d.weights Tryd.prog 50, n ≤ reachBytes) :
    ∃ (k : Int) (a0 : Option Addr) (cap : Nat) (l : List Nat), v = .agg #[.int .i64 k, .slice a0 l.length cap] ∧ l.length ≤ cap ∧ l.length ≤ 140737488355328 ∧ Bytes l ∧ SlAt W a0 (u8v l) := by
  obtain ⟨v0, v1, y0, y1, n, rfl, rfl, rfl, h0, h1⟩ := Go.Joins.open_agg2 Tryd.underlying50 (by kernel_rfl) recCells hv h
  obtain ⟨s, e0, x0, w0⟩ := DataW.trod_int Tryd.underlying3 h0
  obtain ⟨a0, cap, l, rfl, h4, h5, h6, h7⟩ := open_u8 h1 (fun n hn => hz n (by
    rw [DataW.weights, Tryd.underlying50]
    exact DataW.weights_mem_each (j := 1) rfl rfl n hn))
  simp at e0
  subst e0
  exact ⟨s, a0, cap, l, rfl, h4, h5, h6, h7⟩
theorem cells2 {w : World} {base : Nat} {a : Addr} {cs : List Value} (h : w.cells? base a 2 = some cs) : ∃ c0 c1, cs = [c0, c1] ∧ w.cell? (a.add 0) = some c0 ∧ w.cell? (a.add 1) = some c1 := by
  obtain ⟨_, hl, hc⟩ := World.cells?_some h
  match cs, hl with
  | [c0, c1], _ => exact ⟨c0, c1, rfl, by simpa using hc 0 (by omega), by simpa using hc 1 (by omega)⟩
theorem open_list2 {P : Program} {w : World} {base : Nat} {spare : Nat → Bool} {held : Bool} {t : TypeId} {f0 f1 : Field} {fuel : Nat} {c0 c1 : Value} {x : DataW H × List MemPlace} (hs : P.underlying t = some (.struct #[f0, f1])) (hone : Go.Deep.oneCellFields P #[f0, f1] = true)
    (h : DataW.trod enc P w base spare held fuel t [c0, c1] = some x) :
    ∃ (y0 y1 : DataW H × List MemPlace) (n : Nat), x = (.agg [y0.1, y1.1], y0.2 ++ y1.2) ∧ DataW.trod enc P w base spare held n f0.type [c0] = some y0 ∧ DataW.trod enc P w base spare held n f1.type [c1] = some y1 := by
  obtain ⟨y0, y1, n, hx, _, h0, h1⟩ := trod_struct2 hs h
  obtain ⟨o0, k0⟩ := Go.Deep.hone_of hone 0 f0 rfl
  obtain ⟨o1, k1⟩ := Go.Deep.hone_of hone 1 f1 rfl
  exact ⟨y0, y1, n, hx, by simpa [o0, k0] using h0, by simpa [o1, k1] using h1⟩
set_option maxRecDepth 100000 in
/-- records side by side -/
theorem open_recs {r : Reach} {b0 : Nat} {v : Value} {d : DataW H} {p : List MemPlace} (hv : Value.okWide Tryd.prog W r b0 31 v) (h : DataW.Trod enc Tryd.prog W 0 (fun _ => true) true 31 v d p) (hz : ∀ n ∈ d.weights Tryd.prog 31, n ≤ reachBytes) :
    ∃ (a0 : Option Addr) (cap : Nat) (ls : List IRec), v = .slice a0 ls.length cap ∧ ls.length ≤ cap ∧ ls.length * 32 ≤ 140737488355328 ∧ (∀ r ∈ ls, r.2.length ≤ 140737488355328) ∧ RecAt W (fun _ => True) a0 ls := by
  obtain ⟨a, len, cap, rfl⟩ := okWide_slice Tryd.underlying31 hv
  obtain ⟨fuel, hf⟩ := h
  rcases Go.Deep.open_slice Tryd.underlying31 (by simpa [Value.cells] using hf) with ⟨hcs, hx⟩ | ⟨ad, ln, cp, m, n, D, Pl, hcs, _, hl, _, hm, hx, hcell⟩
  · simp at hcs
    obtain ⟨rfl, rfl, rfl⟩ := hcs
    exact ⟨none, 0, [], rfl, Nat.le_refl _, Nat.zero_le _, (fun r hr => by cases hr), RecAt.nil⟩
  · simp at hcs
    obtain ⟨rfl, rfl, rfl⟩ := hcs
    simp only [if_true] at hm
    have hm' := hm.symm
    subst hm'
    have hd := congrArg Prod.fst hx
    simp only at hd
    subst hd
    rw [recCells] at hcell
    have hw : ∀ i, i < len → ∀ k ∈ (D i).weights Tryd.prog 50, k ≤ reachBytes := fun i hi k hk => by
      refine hz k ?_
      rw [DataW.weights, Tryd.underlying31]
      refine List.mem_cons.2 (.inr (List.mem_append.2 (.inl ?_)))
      exact weightsAll_mem (List.mem_map.2 ⟨i, List.mem_range.2 hi, rfl⟩) k hk
    have hlen : len * 32 ≤ 140737488355328 := by
      have := hz (len * 32 + (cap - len) * 32) (by
        rw [DataW.weights, Tryd.underlying31]
        refine List.mem_cons.2 (.inl ?_)
        rw [recBytes, List.length_map, List.length_map, List.length_range, List.length_range, Nat.add_mul])
      have e : reachBytes = 140737488351232 := rfl
      omega
    obtain ⟨Ls, hL⟩ := chosen (α := IRec) (m := len) (p := fun i r => ∃ (Av : Option Addr) (cv : Nat), W.cell? ((ad.add (i * 2)).add 0) = some (.int .i64 r.1) ∧ W.cell? ((ad.add (i * 2)).add 1) = some (.slice Av r.2.length cv) ∧ r.2.length ≤ cv ∧ SlAt W Av (u8v r.2) ∧ Bytes r.2 ∧ r.2.length ≤ 140737488355328) (fun i hi => by
      obtain ⟨cs, hcs, ht⟩ := hcell i (by omega)
      obtain ⟨c0, c1, rfl, k0, k1⟩ := cells2 hcs
      obtain ⟨y0, y1, m, hy, h0, h1⟩ := open_list2 Tryd.underlying50 (by kernel_rfl) ht
      obtain ⟨s, e0, _, w0⟩ := DataW.trod_int Tryd.underlying3 h0
      have hD : D i = .agg [y0.1, y1.1] := congrArg Prod.fst hy
      obtain ⟨a0, c, l, rfl, h4, h5, h6, h7⟩ := open_u8 h1 (fun n hn => hw i hi n (by
        rw [hD, DataW.weights, Tryd.underlying50]
        exact DataW.weights_mem_each (j := 1) rfl rfl n hn))
      simp at e0
      subst e0
      exact ⟨(s, l), a0, c, k0, k1, h4, h7, h6, h5⟩)
    refine ⟨some ad, cap, (List.range len).map Ls, by rw [List.length_map, List.length_range], by rw [List.length_map, List.length_range]; exact hl, by rw [List.length_map, List.length_range]; exact hlen, fun r hr => ?_, fun i l hi => ?_⟩
    · obtain ⟨j, hj, rfl⟩ := List.mem_map.1 hr
      obtain ⟨_, _, _, _, _, _, _, h8⟩ := hL j (List.mem_range.1 hj)
      exact h8
    · rw [List.getElem?_map, Option.map_eq_some_iff] at hi
      obtain ⟨j, hj, rfl⟩ := hi
      obtain ⟨hj1, hj2⟩ := List.getElem?_eq_some_iff.1 hj
      rw [List.length_range] at hj1
      rw [List.getElem_range] at hj2
      subst hj2
      obtain ⟨Av, cv, k0, k1, h4, h5, h6, _⟩ := hL i hj1
      rw [add_add] at k0 k1
      exact ⟨ad, Av, cv, rfl, by have := World.block_lt_of_cell? _ _ k0; rwa [add_block] at this, trivial, k0, k1, h4, h5, fun _ _ => trivial, h6⟩
end
end Go.Proofs.YtpmjlaiafgbjgaaDoor.Base
end

section
namespace Go.Proofs.YtpmjlaiafgbjgaaDoor.journalRecords
open Go.ChangeShapes Go.WideShapes Go.ChangeAt Go.RowKit

set_option maxRecDepth 100000 in
theorem contract (H : Type) (enc : TypeId × Value → H) (W : World) (base : Nat) (args : Array Value) (ds gs : List (DataW H)) (before : List MemPlace)
    (hval : ∀ (j : Nat) t v, Tryd.f9.params[j]? = some t → args[j]? = some v → Value.okWide Tryd.prog W .any base t v)
    (hW : DataW.Whole enc Tryd.prog Tryd.f9.params.toList Rows.journalRecordsSpec.vars false W args.toList ds gs before)
    (hsz : (DataW.weightsEach Tryd.prog (Tryd.f9.params.toList ++ (OpenSpec.ofChange Rows.journalRecordsSpec).bare.plain.varTypes Tryd.prog) (ds ++ gs)).all (· ≤ reachBytes) = true) (hL : laidMetH Tryd.prog Rows.journalRecordsRow.laid W) :
    Calls Tryd.prog 9 args W fun e W' => ∃ v, e = .returned v ∧ Rows.journalRecordsSpec.post enc Tryd.prog Tryd.f9 false true false false W args v W' := by
  have hW' := hW
  obtain ⟨p, q, hA0, hV, rfl, hfz, hnd⟩ := hW
  have hA : DataW.TrodAll enc Tryd.prog W 0 (fun _ => true) true Tryd.f9.params.toList args.toList ds p := hA0
  rw [Tryd.params9] at hA hval hsz
  obtain ⟨v0, vs0, d0, ds0, p0, q0, hargs, rfl, rfl, h0, r0⟩ := trodAll_cons hA
  obtain ⟨v1, vs1, d1, ds1, p1, q1, rfl, rfl, rfl, h1, r1⟩ := trodAll_cons r0
  obtain ⟨v2, vs2, d2, ds2, p2, q2, rfl, rfl, rfl, h2, r2⟩ := trodAll_cons r1
  obtain ⟨v3, vs3, d3, ds3, p3, q3, rfl, rfl, rfl, h3, r3⟩ := trodAll_cons r2
  obtain ⟨rfl, rfl, rfl⟩ := trodAll_nil r3
  obtain rfl : args = #[v0, v1, v2, v3] := by cases args; simp_all
  obtain ⟨rfl, rfl⟩ := trodVars_none hV
  obtain ⟨k0, A0, c0, l0, rfl, hc0, hn0, hb0, hm0⟩ := Base.open_rec (hval 0 50 v0 rfl rfl) h0 (Base.wt_of hsz (j := 0) rfl rfl)
  obtain ⟨s1, rfl, hn1⟩ := Base.open_text (hval 1 9 v1 rfl rfl) h1 (Base.wt_of hsz (j := 1) rfl rfl)
  obtain ⟨s2, q2', t2, A2, c2, l2, rfl, hq2, ht2, hc2, hn2, hb2, hm2, hs2⟩ := Base.open_rd (hval 2 59 v2 rfl rfl) h2 (Base.wt_of hsz (j := 2) rfl rfl)
  obtain ⟨A3, c3, l3, rfl, hc3, hn3, hz3, hm3⟩ := Base.open_recs (hval 3 31 v3 rfl rfl) h3 (Base.wt_of hsz (j := 3) rfl rfl)
  clear hA0
  simp only [List.append_nil] at hW'
  have hlt : ∀ x, x ∈ p0 ∨ x ∈ p1 ∨ x ∈ p2 ∨ x ∈ p3 → x.block < W.heap.size := fun x hx => hW'.lt x (by simpa using hx)
  refine (jrecords_walk k0 A0 c0 l0 hb0 hn0 hc0 s1 hn1 s2 q2' t2 A2 c2 l2 hq2 ht2 hb2 hn2 _ A3 c3 l3 hn3 hz3 W (Base.fmS hL) hm0 hm2 hm3).mono fun e W' ⟨he, bel⟩ => ?_
  subst he
  exact ⟨_, rfl, _, _, _, [], _, [], hW', trodAll_mk1 (shut_bool Tryd.underlying4 _), (trodAll_cons_mk (Below.trod Base.laidOut (by kernel_rfl) (of_decide_eq_true (by kernel_rfl)) h0 bel (fun x hx => hlt x (.inl hx))) (trodAll_cons_mk (Below.trod Base.laidOut (by kernel_rfl) (of_decide_eq_true (by kernel_rfl)) h1 bel (fun x hx => hlt x (.inr (.inl hx)))) (trodAll_cons_mk (Below.trod Base.laidOut (by kernel_rfl) (of_decide_eq_true (by kernel_rfl)) h2 bel (fun x hx => hlt x (.inr (.inr (.inl hx))))) (trodAll_cons_mk (Below.trod Base.laidOut (by kernel_rfl) (of_decide_eq_true (by kernel_rfl)) h3 bel (fun x hx => hlt x (.inr (.inr (.inr hx))))) trodAll_mk0)))), rfl, Below.frame bel _, fun h => by cases h⟩

theorem laid_met (os : Os) : laidMet Tryd.prog Rows.journalRecordsRow.laid ((Base.laidWorld os).forCall (fun _ _ => 0) ⟨#[], #[Value.agg #[.int .i64 0, .slice none 0 0], Value.string ⟨#[]⟩, Value.agg #[.int .i64 0, .int .u32 0, .int .u32 0, .slice none 0 0], Value.slice none 0 0], []⟩).memory :=
  laidMet_of_run' 8 (by kernel_rfl) (by kernel_rfl)
theorem reads (os : Os) {H : Type} (enc : TypeId × Value → H) : ∃ places, DataW.whole enc Tryd.prog ((Base.laidWorld os).forCall (fun _ _ => 0) ⟨#[], #[Value.agg #[.int .i64 0, .slice none 0 0], Value.string ⟨#[]⟩, Value.agg #[.int .i64 0, .int .u32 0, .int .u32 0, .slice none 0 0], Value.slice none 0 0], []⟩).memory Tryd.f9.params.toList Rows.journalRecordsSpec.vars false (#[Value.agg #[.int .i64 0, .slice none 0 0], Value.string ⟨#[]⟩, Value.agg #[.int .i64 0, .int .u32 0, .int .u32 0, .slice none 0 0], Value.slice none 0 0] : Array Value).toList 8 = some ([.agg [.lit (.int .i64 0), .nil], .lit (.string []), .agg [.lit (.int .i64 0), .lit (.int .u32 0), .lit (.int .u32 0), .nil], .nil], [], places) :=
  ⟨[], by kernel_rfl⟩

set_option maxRecDepth 100000 in
theorem lifted (os : Os) (started : os.Started) (H : Type) (enc : TypeId × Value → H) (F : Stop.Interp) :
    ReturnsInHanded {} Tryd.checked os 9 .any ((OpenSpec.ofChange Rows.journalRecordsSpec).preRow enc Tryd.prog Tryd.f9 Rows.journalRecordsRow.domain false Rows.journalRecordsRow.laid) (((OpenSpec.ofChange Rows.journalRecordsSpec).at F).post enc Tryd.prog Tryd.f9 false true false false) := by
  obtain ⟨places, hx⟩ := reads os enc
  refine returnsInHanded_of_row (C := Tryd.checked) (s := OpenSpec.ofChange Rows.journalRecordsSpec) Base.own started (by kernel_rfl) Tryd.func9
    (witness_row_at (enc := enc) (C := Tryd.checked) false (Base.laidWorld os) #[Value.agg #[.int .i64 0, .slice none 0 0], Value.string ⟨#[]⟩, Value.agg #[.int .i64 0, .int .u32 0, .int .u32 0, .slice none 0 0], Value.slice none 0 0] rfl (by kernel_rfl) (by kernel_rfl) (by kernel_rfl)
      (OpenSpec.preRow_of_cond 8 hx (by kernel_rfl) (fun k hk => by cases hk) (by kernel_rfl) (laid_met os))) ?_
  intro W base args ds gs before hval hW _ _ hsz hL _ _
  exact contract H enc W base args ds gs before hval hW hsz hL

theorem said : Rows.JournalRecordsSaid :=
  OpenClaim.holds_of_cond 9 Tryd.f9 rfl rfl rfl rfl rfl rfl rfl ⟨rfl, rfl, rfl, rfl, rfl⟩ rfl rfl rfl rfl rfl (by kernel_rfl) Tryd.func9 (by kernel_rfl)
    (of_decide_eq_true (by kernel_rfl)) (by unfold Func.isWrapper; first | (rw [if_pos (by decide +kernel)]; kernel_rfl) | (rw [if_neg (by decide +kernel)]; exact ⟨rfl, rfl⟩))
    (fun os started H enc _ F => by rw [OpenClaim.pre_eq_preRow]; exact lifted os started H enc F)

theorem plain (f : FuncId) (fn : Func) (hf : Tryd.pinned.checked.prog.funcNamed "binnacle/binnaclelaw22.JournalRecords" = some f) (hfn : Tryd.pinned.checked.prog.funcs[f]? = some fn) :
    false = Tryd.pinned.checked.prog.looks [] ∧ ∀ (j : Nat) t, fn.params[j]? = some t → Tryd.pinned.checked.prog.wantsStandIn t = false := by
  obtain rfl : f = 9 := Option.some.inj ((show Tryd.prog.funcNamed "binnacle/binnaclelaw22.JournalRecords" = some 9 by kernel_rfl).symm.trans hf) |>.symm
  obtain rfl : fn = Tryd.f9 := (Option.some.inj (Tryd.func9.symm.trans hfn)).symm
  refine ⟨by kernel_rfl, fun j t ht => ?_⟩
  rw [Tryd.params9] at ht
  have hm := Array.mem_of_getElem? ht
  have hm' : t = 50 ∨ t = 9 ∨ t = 59 ∨ t = 31 := by simpa using hm
  rcases hm' with rfl | rfl | rfl | rfl
  · exact (show Tryd.prog.wantsStandIn 50 = false by kernel_rfl)
  · exact (show Tryd.prog.wantsStandIn 9 = false by kernel_rfl)
  · exact (show Tryd.prog.wantsStandIn 59 = false by kernel_rfl)
  · exact (show Tryd.prog.wantsStandIn 31 = false by kernel_rfl)

/-- THE CARD -/
theorem card : Rows.JournalRecordsCardSaid :=
  Claim7.holds_tied_plain_at .later [] _ _ _ _ said (fun _ h => by cases h) (by kernel_rfl) (fun _ h => by cases h) journalRecords_row_tie rfl ⟨rfl, rfl⟩ (by kernel_rfl) rfl plain (by kernel_rfl)
#print axioms card
end Go.Proofs.YtpmjlaiafgbjgaaDoor.journalRecords
end
