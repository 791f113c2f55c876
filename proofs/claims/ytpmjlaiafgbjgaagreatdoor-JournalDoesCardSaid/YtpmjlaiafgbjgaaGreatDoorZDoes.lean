/- The card of JournalDoes: whatever the input, the call returns true and the input reads as it did; the format holds what the program's text lays. -/
import Derived.Test.YtpmjlaiafgbjgaaGreatDoorRows
import Derived.WalkKit
import Derived.WalkSpells
import Derived.WalkLawsBesides
import Derived.BigQuiet
import Derived.Lib.Hide
import Ieee.Arith
import Derived.Lib.TrailingZeros
import Derived.Lib.BitFns
import Derived.Lib.Strings
import Derived.Lib.Slices
import Derived.Lib.Small
import Derived.Lib.Walk
import Derived.OwnWalk
import Derived.Maps.AppendAt
import Derived.Laws.OwnMore
import Derived.Deep.AppendLies
import Derived.Deep.Draws
import Derived.OrdersHeld
import Derived.StillTail
import Derived.Deep.RegionHeld3
import Derived.Deep.DeepCutAuto
import Derived.IntWalk
import Derived.Maps.Range
import Derived.Maps.RangeWalk
import Derived.Laws.BytesArg
import Derived.Laws.Strings
import Derived.Lib.SlBytesConst
import Derived.RangeFuncNested
import Derived.RangeFuncBound
import Derived.RangeFuncCalls
import Derived.RangeFuncLeaves
import Derived.OwnWalkIn
import Derived.Shelf.Abstract
import Derived.Shelf.RegionOpen
import Derived.TacticsInMore
import Derived.LoopNIn
import Derived.LoopIn
import Derived.RangeFuncBox
import Derived.Laws.IdiomStrings
import Derived.Test.YtpmjlaiafgbjgaaGreatDoorCards
import Derived.Test.YtpmjlaiafgbjgaaGreatDoorTie
import Derived.ProofKit
import Derived.OpenShut
import Derived.ShutString
import Derived.ChangeOld
import Derived.ChangeSlices
import Derived.Below
import Derived.Carry
import Derived.SizedLaws
import Derived.Deep.DeepHandedRow
import Derived.Deep.Strs
import Derived.Lib.LaidTab
import Derived.Lib.SmallJoins
import Derived.Deep.Slices
import Derived.Test.YtpmjlaiafgbjgaaGreatDoorZDoes6
set_option linter.unusedVariables false
set_option linter.unusedSimpArgs false
section
namespace Go.Proofs.YtpmjlaiafgbjgaaGreatDoor
open Go.RowKit
def strNums (s : ByteArray) : List Nat := s.data.toList.map (·.toNat)
theorem strNums_len (s : ByteArray) : (strNums s).length = s.size := by unfold strNums; rw [List.length_map, Array.length_toList]; rfl
theorem strNums_bytes (s : ByteArray) : Bytes (strNums s) := by
  intro x hx
  unfold strNums at hx
  obtain ⟨b, _, rfl⟩ := List.mem_map.1 hx
  exact b.toNat_lt
theorem bytes_at (w : World) (s : ByteArray) (cap : Nat) (E : TypeId) (fr : Nat × Nat) : SlAt (w.alloc (.cells (bytesRow s cap) E fr)) (some ⟨w.heap.size, 0, none⟩) (u8v (strNums s)) := by
  have h := (SlAt.made_mark w (bytesRow s cap).toList E fr).take s.size
  rw [Array.toArray_toList] at h
  have e : (bytesRow s cap).toList.take s.size = u8v (strNums s) := by
    unfold bytesRow u8v strNums
    rw [Array.toList_append, Array.toList_map, List.take_left' (by rw [List.length_map, Array.length_toList]; rfl), List.map_map]
    rfl
  rw [e] at h
  exact h
def NoteP (s : ByteArray) (w : World) (e : Ending) (w' : World) : Prop := (checkR pf 3 (strNums s) = 0 ∧ (∃ A c, e = .returned (.tuple #[.agg #[.int .i64 3, .slice A s.size c], .int .i64 0]) ∧ s.size ≤ c ∧ SlAt w' A (u8v (strNums s)) ∧ (∀ ad, A = some ad → w.heap.size ≤ ad.block)) ∨ checkR pf 3 (strNums s) ≠ 0 ∧ e = .returned (.tuple #[.agg #[.int .i64 0, .slice none 0 0], .int .i64 (checkR pf 3 (strNums s))])) ∧ Within w w'
set_option maxRecDepth 100000 in
set_option maxHeartbeats 1000000 in
theorem Note_any (s : ByteArray) (hl : s.size ≤ 1152921504606846976) (w : World) (hT : FmS w) : Calls Tryz.prog 30 #[.string s] w (NoteP s w) := by
  have RB := fun (w : World) => run_bytes_of_string (P := Tryz.prog) w 9 28 5 s (by kernel_rfl) (by kernel_rfl) (by kernel_rfl)
  obtain ⟨n, hn⟩ : ∃ n, s.size = n := ⟨_, rfl⟩
  rw [hn] at RB hl
  have hge := grownCap_ge (w.alloc (.cells #[.int .i64 0, .slice none 0 0] 30)) n 0 5
  obtain ⟨cp, hcp⟩ : ∃ c, grownCap (w.alloc (.cells #[.int .i64 0, .slice none 0 0] 30)) n 0 5 = c := ⟨_, rfl⟩
  obtain ⟨C, hC⟩ : ∃ C, bytesRow s cp = C := ⟨_, rfl⟩
  obtain ⟨Z, hZ⟩ : ∃ Z, Z = w.alloc (.cells #[.int .i64 0, .slice none 0 0] 30) := ⟨_, rfl⟩
  obtain ⟨Z2, hZ2⟩ : ∃ Z2, Z2 = Z.alloc (.cells C 5 (C.size, C.size + 1)) := ⟨_, rfl⟩
  obtain ⟨Z3, hZ3⟩ : ∃ Z3, Z3 = Z2.alloc (.cells #[.int .i64 3, .slice (some ⟨w.heap.size + 1, 0, none⟩) n cp] 30) := ⟨_, rfl⟩
  obtain ⟨W3, hW3⟩ : ∃ W, W = Z3.drew := ⟨_, rfl⟩
  have hZs : Z.heap.size = w.heap.size + 1 := by rw [hZ]; simp
  have hZ2s : Z2.heap.size = w.heap.size + 1 + 1 := by rw [hZ2]; simp [hZs]
  have hI3 : Within Z3 W3 := by rw [hW3]; exact (Within.refl _).drew
  have hI2 : Within Z2 W3 := Within.trans (by rw [hZ3]; exact (Within.refl _).alloc _) hI3
  have hI1 : Within Z W3 := Within.trans (by rw [hZ2]; exact (Within.refl _).alloc _) hI2
  have hI : Within w W3 := Within.trans (by rw [hZ]; exact (Within.refl w).alloc _) hI1
  have hs3 : SlAt W3 (some ⟨w.heap.size + 1, 0, none⟩) (u8v (strNums s)) := by
    have h := bytes_at Z s cp 5 (C.size, C.size + 1)
    rw [hC, hZs, ← hZ2] at h
    exact h.of hI2
  have k0 : W3.cell? ⟨w.heap.size, 0, none⟩ = some (.int .i64 0) := (hI1.cells _ _ (by omega)).trans (by rw [hZ]; simp)
  have k1 : W3.cell? ⟨w.heap.size, 1, none⟩ = some (.slice none 0 0) := (hI1.cells _ _ (by omega)).trans (by rw [hZ]; simp)
  have kf0 : W3.frozen? ⟨w.heap.size, 0, none⟩ = false := (hI1.frozens _ _ (by omega)).trans (by rw [hZ]; simp)
  have kf1 : W3.frozen? ⟨w.heap.size, 1, none⟩ = false := (hI1.frozens _ _ (by omega)).trans (by rw [hZ]; simp)
  have hZ3s : Z3.heap.size = w.heap.size + 1 + 1 + 1 := by rw [hZ3]; simp [hZ2s]
  have z0 : W3.cell? ⟨w.heap.size + 1 + 1, 0, none⟩ = some (.int .i64 3) := (hI3.cells _ _ (by omega)).trans (by rw [hZ3, ← hZ2s]; simp)
  have z1 : W3.cell? ⟨w.heap.size + 1 + 1, 1, none⟩ = some (.slice (some ⟨w.heap.size + 1, 0, none⟩) n cp) := (hI3.cells _ _ (by omega)).trans (by rw [hZ3, ← hZ2s]; simp)
  have ks : w.heap.size < W3.heap.size := by have := hI3.size; omega
  have zs : w.heap.size + 1 + 1 < W3.heap.size := by have := hI3.size; omega
  clear hI1 hI2 hI3 hZ3s hZ2s
  have hsl := strNums_len s
  rw [hn] at hsl
  have JC := jcheck_any 3 (some ⟨w.heap.size + 1, 0, none⟩) cp (strNums s) (strNums_bytes s) (by rw [hsl, ← hcp]; exact hge) (by rw [hsl]; exact hl) W3 (hT.of hI) hs3
  rw [hsl] at JC
  obtain ⟨ck, hck⟩ : ∃ c, checkR pf 3 (strNums s) = c := ⟨_, rfl⟩
  rw [hck] at JC
  have JCH := Lib.hid JC; have HI := Lib.hid hI; have HS := Lib.hid hs3; have HGE := Lib.hid hge; have HW3 := Lib.hid hW3; have HZ3 := Lib.hid hZ3; have HZ2 := Lib.hid hZ2; have HCP := Lib.hid hcp; have HZ := Lib.hid hZ; have HC := Lib.hid hC; have HCK := Lib.hid hck; have HN := Lib.hid hn; clear JC hI hs3 hge hsl hck hT hW3 hZ3 hZ2 hcp hZ hC hZs
  clear hn
  go_enter Tryz.func30, Tryz.ntmps30
  go_wp2_with fail
  rw [HCP.out, HC.out, ← HZ.out, ← HZ2.out, ← HZ3.out, ← HW3.out]
  refine JCH.out.mono ?_; rintro e1 w1 ⟨rfl, h1⟩
  have k0 := (h1.cells _ _ ks).trans k0
  have k1 := (h1.cells _ _ ks).trans k1
  have z0 := (h1.cells _ _ zs).trans z0
  have z1 := (h1.cells _ _ zs).trans z1
  have kf0 := (h1.frozens _ _ ks).trans kf0
  have kf1 := (h1.frozens _ _ ks).trans kf1
  have ks := Nat.lt_of_lt_of_le ks h1.size
  have zs := Nat.lt_of_lt_of_le zs h1.size
  have H1 := Lib.hid h1; clear h1
  have hin : Within w w1 := HI.out.trans H1.out
  by_cases hc : ck = 0
  · subst hc
    go_wp2
    refine bodyPost_ret (v := .tuple #[.agg #[.int .i64 3, .slice (some ⟨w.heap.size + 1, 0, none⟩) n cp], .int .i64 0]) (by simp [results, Tryz.results30, go_sem, k0, k1, kf0, kf1, ks]) rfl ⟨.inl ⟨HCK.out, some ⟨w.heap.size + 1, 0, none⟩, cp, by rw [HN.out], by rw [HN.out, ← HCP.out]; exact HGE.out, ?_, fun ad e => by injection e with e; subst e; simp⟩, ?_⟩
    · have hK : But w.heap.size w1 ((w1.setCell ⟨w.heap.size, 0, none⟩ (.int .i64 3)).setCell ⟨w.heap.size, 1, none⟩ (.slice (some ⟨w.heap.size + 1, 0, none⟩) n cp)) := ((But.refl w.heap.size w1).set (.inl rfl) _).set (.inl rfl) _
      exact (HS.out.of H1.out).but hK (fun ad e => by injection e with e; subst e; simp)
    · exact (hin.setCell (Nat.le_refl _) _).setCell (Nat.le_refl _) _
  · have v1 : (ck != 0) = true := bne_iff_ne.2 hc
    go_wp2
    refine bodyPost_ret (v := .tuple #[.agg #[.int .i64 0, .slice none 0 0], .int .i64 ck]) (by simp [results, Tryz.results30, go_sem, k0, k1, kf0, kf1, ks]) rfl ⟨.inr ⟨by rw [HCK.out]; exact hc, by rw [HCK.out]⟩, ?_⟩
    exact (hin.setCell (Nat.le_refl _) _).setCell (Nat.le_refl _) _
end Go.Proofs.YtpmjlaiafgbjgaaGreatDoor
end

section
namespace Go.Proofs.YtpmjlaiafgbjgaaGreatDoor
open Go.RowKit
def awRec : Rec := ⟨3, [97, 98]⟩
theorem awRec_ok : awRec.Ok pf := ⟨by rw [show (awRec.kind : Int) = 3 from rfl, checkR_note (by decide)]; rfl, by intro x hx; revert x; decide⟩
theorem aw_len : (logV [awRec]).length = 27 := by
  unfold logV
  rw [List.length_append, show laidV [awRec] 0 startV = layV awRec 0 startV ++ [] from rfl, List.append_nil, layV_len]; rfl
theorem log_take (l : List Rec) : (logV l).take 8 = magicV := take_app rfl
theorem log_drop (l : List Rec) : (logV l).drop 8 = laidV l 0 startV := drop_app rfl
theorem log_bytes {l : List Rec} (h : ∀ r ∈ l, r.Ok pf) : Bytes (logV l) := magic_bytes.append (laidV_bytes 0 startV h)
theorem logRead_log {l : List Rec} (h : ∀ r ∈ l, r.Ok pf) (hn : l.length ≤ 1048576) : logRead (logV l) = (l, 0, (logV l).length) := by
  rw [logRead_yes (log_take l), log_drop, readV_log h hn]
  show (l, 0, 8 + (laidV l 0 startV).length) = _
  unfold logV
  rw [List.length_append]; rfl
theorem strB_ab : strB [97, 98] = ⟨#[97, 98]⟩ := by kernel_rfl
theorem ab_nums : strNums ⟨#[97, 98]⟩ = [97, 98] := by rfl
set_option maxRecDepth 100000 in
set_option maxHeartbeats 1000000 in
theorem jawake_true (w : World) (hT : FmS w) : Calls Tryz.prog 7 #[] w fun e w' => e = .returned (.bool true) ∧ Within w w' := by
  have HT := Lib.hid hT; clear hT
  go_enter Tryz.func7, Tryz.ntmps7
  go_wp2_with fail
  refine (New_log w).mono ?_; rintro e1 w1 ⟨xb, rfl, hL1, h1⟩
  have NA := Lib.hid (Note_any ⟨#[97, 98]⟩ (by decide) w1 (HT.out.of h1))
  have HL1 := Lib.hid hL1; have H1 := Lib.hid h1; clear hL1 h1
  go_wp2_with fail
  refine NA.out.mono ?_; rintro e2 w2 hN; clear NA
  obtain ⟨hN, h2⟩ := hN
  have hck : checkR pf 3 (strNums ⟨#[97, 98]⟩) = 0 := awRec_ok.ok
  rcases hN with ⟨_, A2, c2, rfl, hc2, hs2, _⟩ | ⟨hne, _⟩
  rotate_left
  · exact absurd hck hne
  rw [show (⟨#[97, 98]⟩ : ByteArray).size = 2 from rfl] at hc2 ⊢
  rw [ab_nums] at hs2
  clear hck
  obtain ⟨W2, hW2⟩ : ∃ W2, W2 = w2.alloc (.cells #[.int .i64 3, .slice A2 2 c2] 30) := ⟨_, rfl⟩
  have h22 : Within w2 W2 := by rw [hW2]; exact (Within.refl w2).alloc _
  have z0 : W2.cell? ⟨w2.heap.size, 0, none⟩ = some (.int .i64 3) := by rw [hW2]; simp
  have z1 : W2.cell? ⟨w2.heap.size, 1, none⟩ = some (.slice A2 2 c2) := by rw [hW2]; simp
  have zs : w2.heap.size < W2.heap.size := by rw [hW2]; simp
  have hwW : Within w W2 := H1.out.trans (h2.trans h22)
  have AP := Lib.hid (Append_good _ xb [] (fun q hq => by cases hq) A2 c2 [97, 98] (by show (0 : Nat) < 1048576; decide) 3 awRec_ok.ok awRec_ok.bytes hc2 (by decide) W2 (HT.out.of hwW) (HL1.out.of (h2.trans h22)) (hs2.of h22))
  have HW2 := Lib.hid hW2; have HWW := Lib.hid hwW; clear hW2 hs2 hc2 h2 h22 hwW
  go_wp2_with fail
  rw [← HW2.out]
  have hl0 : ([] : List Rec).length = 0 := rfl
  have hl2 : ([97, 98] : List Nat).length = 2 := rfl
  rw [hl0, hl2] at AP
  clear hl0 hl2
  refine AP.out.mono ?_; rintro e3 w3 ⟨rfl, hL3, hB3⟩
  clear AP
  have hL3 : LogS w3 (More (fun j => w.heap.size ≤ j ∧ j < w1.heap.size) W2 w3) xb [awRec] := hL3
  have hww3 : Within w w3 := HWW.out.asides hB3 (fun j hj => hj.1)
  have BY := Lib.hid (Bytes_log _ xb [awRec] (by rw [aw_len]; decide) w3 hL3)
  have HW3 := Lib.hid hww3; clear hww3 hL3 hB3
  obtain ⟨bl, hbl⟩ : ∃ l, logV [awRec] = l := ⟨_, rfl⟩
  have hlen := aw_len
  have hrd := logRead_log (l := [awRec]) (fun q hq => by rw [List.mem_singleton] at hq; rw [hq]; exact awRec_ok) (by decide)
  have hby := log_bytes (l := [awRec]) (fun q hq => by rw [List.mem_singleton] at hq; rw [hq]; exact awRec_ok)
  have hb0 : (logV [awRec]).getD 0 0 = 66 := rfl
  rw [hbl] at BY hlen hrd hby hb0
  rw [hlen] at hrd
  clear hbl
  have HRD := Lib.hid hrd; have HBY := Lib.hid hby; have HLEN := Lib.hid hlen; have HB0 := Lib.hid hb0; clear hrd hby hlen hb0
  go_wp2_with fail
  refine BY.out.mono ?_; rintro e4 w4 ⟨v4, rfl, hO4, h4⟩
  obtain ⟨A4, c4, rfl, hc4, hs4, _⟩ := hO4.form
  have RD := Lib.hid (Read_any A4 c4 bl HBY.out (by rw [HLEN.out]; decide) hc4 w4 (HT.out.of (HW3.out.trans h4)) hs4)
  obtain ⟨ad4, rfl, hb4, hx4⟩ := hs4.at (k := 0) (by rw [HLEN.out]; decide)
  rw [HB0.out, add_nought] at hx4
  rw [HLEN.out] at RD hc4 ⊢
  rw [HRD.out] at RD
  have HW4 := Lib.hid (HW3.out.trans h4); clear h4 hO4 hs4
  go_wp2_with fail
  refine RD.out.mono ?_; rintro e5 w5 ⟨lv, rfl, hL5, h5⟩
  clear RD
  obtain ⟨A5, c5, rfl, hc5, hR5, _, _⟩ := hL5.at
  obtain ⟨g, Dv, cv, rfl, l1, y0, yy, hcv, hs5, _⟩ := hR5 0 awRec.i rfl
  have y1 : w5.cell? ⟨g, 1, none⟩ = some (.slice Dv 2 cv) := yy; clear yy
  have hx5 := (h5.cell hb4).trans hx4
  have hb5 := Nat.lt_of_lt_of_le hb4 h5.size
  have ST : Hid (∀ W, Within w5 W → (convert 28 9 (.slice Dv 2 cv)).run Tryz.prog W = .ok (.string ⟨#[97, 98]⟩) W) := Lib.hid (fun W h => by rw [← strB_ab]; exact run_str Dv cv [97, 98] W (SlAt.of hs5 h))
  have st := fun (x : Array Value) => ST.out (w5.alloc (.cells x 42)) ((Within.refl w5).alloc _)
  have HW5 := Lib.hid (HW4.out.trans h5)
  have hlm : ([awRec].map Rec.i).length = 1 := rfl
  rw [hlm] at hc5 ⊢
  clear h5 hL5 hR5 hs5 hcv hlm y0 hx4 hb4 ST
  go_wp2
  go_ret
  exact ⟨rfl, HW5.out.alloc _⟩
end Go.Proofs.YtpmjlaiafgbjgaaGreatDoor
end

section
namespace Go.Proofs.YtpmjlaiafgbjgaaGreatDoor
open Go.RowKit
structure Stp where
  k : Int
  rk : Int
  rd : List Nat
  n : Int
def StpAt (w : World) (A : Option Addr) (ss : List Stp) : Prop := ∀ (i : Nat) s, ss[i]? = some s → ∃ ad Dv cv, A = some ad ∧ ad.block < w.heap.size ∧ w.cell? (ad.add (i * 4)) = some (.int .i64 s.k) ∧ w.cell? ⟨(ad.add (i * 4)).block, (ad.add (i * 4)).off + 1, none⟩ = some (.int .i64 s.rk) ∧ w.cell? ⟨(ad.add (i * 4)).block, (ad.add (i * 4)).off + 2, none⟩ = some (.slice Dv s.rd.length cv) ∧ w.cell? ⟨(ad.add (i * 4)).block, (ad.add (i * 4)).off + 3, none⟩ = some (.int .i64 s.n) ∧ s.rd.length ≤ cv ∧ SlAt w Dv (u8v s.rd) ∧ Bytes s.rd ∧ s.rd.length ≤ 140737488355328
theorem StpAt.of {w w' : World} {A : Option Addr} {ss : List Stp} (h : StpAt w A ss) (k : Within w w') : StpAt w' A ss := fun i s hi => by
  obtain ⟨ad, Dv, cv, h1, h2, h3, h4, h5, h6, h7, h8, h9, h10⟩ := h i s hi
  have kc : ∀ n, w'.cell? ⟨(ad.add (i * 4)).block, n, none⟩ = w.cell? ⟨(ad.add (i * 4)).block, n, none⟩ := fun n => k.cells _ _ (by rw [add_block]; exact h2)
  exact ⟨ad, Dv, cv, h1, Nat.lt_of_lt_of_le h2 k.size, (k.cell (p := ad.add (i * 4)) (by rw [add_block]; exact h2)).trans h3, (kc _).trans h4, (kc _).trans h5, (kc _).trans h6, h7, h8.of k, h9, h10⟩
structure Pair (w0 w : World) (xb yb : Nat) (rs rt : List Rec) (X : Nat → Prop) : Prop where
  ex : ∃ S Sy, LogS w S xb rs ∧ RlogS w Sy yb rt ∧ (∀ j, S j → ¬ Sy j) ∧ (∀ j, S j ∨ Sy j → (w0.heap.size ≤ j ∧ j < w.heap.size) ∧ ¬ X j)
  ok : ∀ q ∈ rs, q.Ok pf
  le : rs.length ≤ 1048576
  lt : rt.length ≤ 1048576
  bel : Within w0 w
abbrev NoX : Nat → Prop := fun _ => False
theorem Pair.of {w0 w w' : World} {xb yb : Nat} {rs rt : List Rec} {X : Nat → Prop} (h : Pair w0 w xb yb rs rt X) (k : Within w w') : Pair w0 w' xb yb rs rt X := by
  obtain ⟨⟨S, Sy, h1, h2, h3, h4⟩, h5, h6, h7, h8⟩ := h
  exact ⟨⟨S, Sy, h1.of k, h2.of k, h3, fun j hj => ⟨⟨(h4 j hj).1.1, Nat.lt_of_lt_of_le (h4 j hj).1.2 k.size⟩, (h4 j hj).2⟩⟩, h5, h6, h7, h8.trans k⟩
theorem Pair.fresh {w0 w w' : World} {xb yb : Nat} {rs rt : List Rec} (h : Pair w0 w xb yb rs rt NoX) (k : Within w w') : Pair w0 w' xb yb rs rt (fun j => w.heap.size ≤ j ∧ j < w'.heap.size) := by
  obtain ⟨⟨S, Sy, h1, h2, h3, h4⟩, h5, h6, h7, h8⟩ := h
  exact ⟨⟨S, Sy, h1.of k, h2.of k, h3, fun j hj => ⟨⟨(h4 j hj).1.1, Nat.lt_of_lt_of_le (h4 j hj).1.2 k.size⟩, fun hx => by have := (h4 j hj).1.2; omega⟩⟩, h5, h6, h7, h8.trans k⟩
theorem Pair.drop {w0 w : World} {xb yb : Nat} {rs rt : List Rec} {X : Nat → Prop} (h : Pair w0 w xb yb rs rt X) : Pair w0 w xb yb rs rt NoX := by
  obtain ⟨⟨S, Sy, h1, h2, h3, h4⟩, h5, h6, h7, h8⟩ := h
  exact ⟨⟨S, Sy, h1, h2, h3, fun j hj => ⟨(h4 j hj).1, fun h => h⟩⟩, h5, h6, h7, h8⟩
theorem Pair.butS {w0 w w' : World} {xb yb : Nat} {rs rt : List Rec} {X T : Nat → Prop} (h : Pair w0 w xb yb rs rt X) (k : ButS T w w') (hT : ∀ j, T j → X j ∧ w0.heap.size ≤ j) : Pair w0 w' xb yb rs rt X := by
  obtain ⟨⟨S, Sy, h1, h2, h3, h4⟩, h5, h6, h7, h8⟩ := h
  exact ⟨⟨S, Sy, h1.butS k (fun j hj _ ht => (h4 j (.inl hj)).2 (hT j ht).1), h2.butS k (fun j hj _ ht => (h4 j (.inr hj)).2 (hT j ht).1), h3, fun j hj => ⟨⟨(h4 j hj).1.1, Nat.lt_of_lt_of_le (h4 j hj).1.2 k.size⟩, (h4 j hj).2⟩⟩, h5, h6, h7, h8.asides k fun j hj => (hT j hj).2⟩
def Away (w0 : World) (X : Nat → Prop) (j : Nat) : Prop := w0.heap.size ≤ j ∧ ¬ X j
theorem Pair.x {w0 w w' : World} {xb yb : Nat} {rs rt rs' : List Rec} {X S : Nat → Prop} (hX : ∀ j, X j → j < w.heap.size) (h : Pair w0 w xb yb rs rt X) {Sy : Nat → Prop} (h2 : RlogS w Sy yb rt) (h3 : ∀ j, S j → ¬ Sy j) (h4 : ∀ j, S j ∨ Sy j → (w0.heap.size ≤ j ∧ j < w.heap.size) ∧ ¬ X j) (hL : LogS w' (More S w w') xb rs') (hB : ButS S w w') (hok : ∀ q ∈ rs', q.Ok pf) (hle : rs'.length ≤ 1048576) : Pair w0 w' xb yb rs' rt X ∧ ButS (Away w0 X) w w' := by
  refine ⟨⟨⟨_, Sy, hL, h2.butS hB (fun j hj _ hs => h3 j hs hj), fun j hj hy => ?_, fun j hj => ?_⟩, hok, hle, h.lt, h.bel.asides hB fun j hj => (h4 j (.inl hj)).1.1⟩, hB.mono fun j _ hj => ⟨(h4 j (.inl hj)).1.1, (h4 j (.inl hj)).2⟩⟩
  · rcases hj with hj | hj
    · exact h3 j hj hy
    · have := (h4 j (.inr hy)).1.2; omega
  · have hs := hB.size
    rcases hj with (hj | hj) | hj
    · exact ⟨⟨(h4 j (.inl hj)).1.1, by have := (h4 j (.inl hj)).1.2; omega⟩, (h4 j (.inl hj)).2⟩
    · exact ⟨⟨by have := h.bel.size; omega, hj.2⟩, fun hx => by have := hX j hx; omega⟩
    · exact ⟨⟨(h4 j (.inr hj)).1.1, by have := (h4 j (.inr hj)).1.2; omega⟩, (h4 j (.inr hj)).2⟩
theorem Pair.y {w0 w w' : World} {xb yb : Nat} {rs rt rt' : List Rec} {X Sy : Nat → Prop} (hX : ∀ j, X j → j < w.heap.size) (h : Pair w0 w xb yb rs rt X) {S : Nat → Prop} (h1 : LogS w S xb rs) (h3 : ∀ j, S j → ¬ Sy j) (h4 : ∀ j, S j ∨ Sy j → (w0.heap.size ≤ j ∧ j < w.heap.size) ∧ ¬ X j) (hL : RlogS w' (More Sy w w') yb rt') (hB : ButS Sy w w') (hle : rt'.length ≤ 1048576) : Pair w0 w' xb yb rs rt' X ∧ ButS (Away w0 X) w w' := by
  refine ⟨⟨⟨S, _, h1.butS hB (fun j hj _ hs => h3 j hj hs), hL, fun j hj hy => ?_, fun j hj => ?_⟩, h.ok, h.le, hle, h.bel.asides hB fun j hj => (h4 j (.inr hj)).1.1⟩, hB.mono fun j _ hj => ⟨(h4 j (.inr hj)).1.1, (h4 j (.inr hj)).2⟩⟩
  · rcases hy with hy | hy
    · exact h3 j hj hy
    · have := (h4 j (.inl hj)).1.2; omega
  · have hs := hB.size
    rcases hj with hj | (hj | hj)
    · exact ⟨⟨(h4 j (.inl hj)).1.1, by have := (h4 j (.inl hj)).1.2; omega⟩, (h4 j (.inl hj)).2⟩
    · exact ⟨⟨(h4 j (.inr hj)).1.1, by have := (h4 j (.inr hj)).1.2; omega⟩, (h4 j (.inr hj)).2⟩
    · exact ⟨⟨by have := h.bel.size; omega, hj.2⟩, fun hx => by have := hX j hx; omega⟩
theorem Pair.take {w0 w : World} {xb nb yb : Nat} {rs rs' rt : List Rec} {X S4 : Nat → Prop} (h : Pair w0 w xb yb rs' rt X) (hL : LogS w S4 nb rs) (hS : ∀ j, S4 j → X j ∧ w0.heap.size ≤ j ∧ j < w.heap.size) (hok : ∀ q ∈ rs, q.Ok pf) (hle : rs.length ≤ 1048576) : Pair w0 w nb yb rs rt NoX := by
  obtain ⟨⟨S, Sy, h1, h2, h3, h4⟩, _, _, h7, h8⟩ := h
  exact ⟨⟨S4, Sy, hL, h2, fun j hj hy => (h4 j (.inr hy)).2 (hS j hj).1, fun j hj => ⟨by rcases hj with hj | hj; exact (hS j hj).2; exact (h4 j (.inr hj)).1, fun h => h⟩⟩, hok, hle, h7, h8⟩
theorem cutV_ok {rs : List Rec} {n : Int} (h : ∀ q ∈ rs, q.Ok pf) (hn : rs.length ≤ 1048576) : (∀ q ∈ (cutV rs n).1, q.Ok pf) ∧ (cutV rs n).1.length ≤ 1048576 := by
  unfold cutV
  split
  · exact ⟨h, hn⟩
  · exact ⟨fun q hq => h q (List.mem_of_mem_take hq), by rw [List.length_take]; omega⟩
theorem appx (w0 : World) (xb yb : Nat) (rs rt : List Rec) (X : Nat → Prop) (w : World) (hX : ∀ j, X j → j < w.heap.size) (h : Pair w0 w xb yb rs rt X) (D : Option Addr) (cd : Nat) (k : Int) (d : List Nat) (hb : Bytes d) (hcd : d.length ≤ cd) (hdl : d.length ≤ 140737488355328) (hT : FmS w) (hr : SlAt w D (u8v d)) : Calls Tryz.prog 9 #[.pointer (some ⟨xb, 0, none⟩), .agg #[.int .i64 k, .slice D d.length cd]] w fun e w' => e = .returned (.tuple #[.int .i64 (appendV rs (k, d)).2.1, .int .i64 (appendV rs (k, d)).2.2]) ∧ Pair w0 w' xb yb (appendV rs (k, d)).1 rt X ∧ ButS (Away w0 X) w w' := by
  obtain ⟨S, Sy, h1, h2, h3, h4⟩ := h.ex
  have hok := appendV_ok (r := (k, d)) h.ok h.le hb
  refine (Append_any S xb rs h.ok D cd k d hb hcd (by omega) w hT h1 hr).mono ?_
  rintro e w' ⟨rfl, hL, hB⟩
  exact ⟨rfl, h.x hX h2 h3 h4 hL hB hok.1 hok.2⟩
theorem appy (w0 : World) (xb yb : Nat) (rs rt : List Rec) (X : Nat → Prop) (w : World) (hX : ∀ j, X j → j < w.heap.size) (h : Pair w0 w xb yb rs rt X) (D : Option Addr) (cd : Nat) (k : Int) (d : List Nat) (hb : Bytes d) (hcd : d.length ≤ cd) (hdl : d.length ≤ 140737488355328) (hok : ∀ q ∈ rt, q.Ok pf) (hr : SlAt w D (u8v d)) : Calls Tryz.prog 10 #[.pointer (some ⟨yb, 0, none⟩), .agg #[.int .i64 k, .slice D d.length cd]] w fun e w' => e = .returned (.tuple #[.int .i64 (appendV rt (k, d)).2.1, .int .i64 (appendV rt (k, d)).2.2]) ∧ Pair w0 w' xb yb rs (appendV rt (k, d)).1 X ∧ ButS (Away w0 X) w w' := by
  obtain ⟨S, Sy, h1, h2, h3, h4⟩ := h.ex
  refine (Rappend_any Sy yb rt D cd d k hb hcd hdl w h2 hr).mono ?_
  rintro e w' ⟨rfl, hL, hB⟩
  exact ⟨rfl, h.y hX h1 h3 h4 hL hB (appendV_ok (r := (k, d)) hok h.lt hb).2⟩
theorem cutx (w0 : World) (xb yb : Nat) (rs rt : List Rec) (X : Nat → Prop) (w : World) (hX : ∀ j, X j → j < w.heap.size) (h : Pair w0 w xb yb rs rt X) (n : Int) : Calls Tryz.prog 11 #[.pointer (some ⟨xb, 0, none⟩), .int .i64 n] w fun e w' => e = .returned (.int .i64 (cutV rs n).2) ∧ Pair w0 w' xb yb (cutV rs n).1 rt X ∧ ButS (Away w0 X) w w' := by
  obtain ⟨S, Sy, h1, h2, h3, h4⟩ := h.ex
  have hok := cutV_ok (n := n) h.ok h.le
  refine (Cut_any S xb rs h.ok h.le n w h1).mono ?_
  rintro e w' ⟨rfl, hL, hB⟩
  exact ⟨rfl, h.x hX h2 h3 h4 hL hB hok.1 hok.2⟩
theorem cuty (w0 : World) (xb yb : Nat) (rs rt : List Rec) (X : Nat → Prop) (w : World) (hX : ∀ j, X j → j < w.heap.size) (h : Pair w0 w xb yb rs rt X) (n : Int) (hok : ∀ q ∈ rt, q.Ok pf) : Calls Tryz.prog 12 #[.pointer (some ⟨yb, 0, none⟩), .int .i64 n] w fun e w' => e = .returned (.int .i64 (cutV rt n).2) ∧ Pair w0 w' xb yb rs (cutV rt n).1 X ∧ ButS (Away w0 X) w w' := by
  obtain ⟨S, Sy, h1, h2, h3, h4⟩ := h.ex
  refine (Rcut_any Sy yb rt h.lt n w h2).mono ?_
  rintro e w' ⟨rfl, hL, hB⟩
  exact ⟨rfl, h.y hX h1 h3 h4 hL hB (cutV_ok (n := n) hok h.lt).2⟩
theorem looks_pair (w0 : World) (xb yb : Nat) (rs : List Rec) (X : Nat → Prop) (w : World) (h : Pair w0 w xb yb rs rs X) (n : Int) : Calls Tryz.prog 16 #[.pointer (some ⟨xb, 0, none⟩), .pointer (some ⟨yb, 0, none⟩), .int .i64 n] w fun e w' => e = .returned (.bool true) ∧ Within w w' := by
  obtain ⟨S, Sy, h1, h2, h3, h4⟩ := h.ex
  by_cases hb : n < 0 ∨ (rs.length : Int) ≤ n
  · exact looks_bad S Sy xb yb rs h.le n hb w h1 h2
  · obtain ⟨i, rfl⟩ : ∃ i : Nat, n = (i : Int) := ⟨n.toNat, by omega⟩
    have hi : i < rs.length := by omega
    have hm : rs[i] ∈ rs := List.getElem_mem hi
    exact looks_good S Sy xb yb rs h.le i rs[i] (List.getElem?_eq_getElem hi) ⟨(h.ok _ hm).parts.2.2, (h.ok _ hm).bytes⟩ w h1 h2
theorem goes_pair (w0 : World) (xb yb : Nat) (rs : List Rec) (X : Nat → Prop) (w : World) (h : Pair w0 w xb yb rs rs X) (n : Int) : Calls Tryz.prog 17 #[.pointer (some ⟨xb, 0, none⟩), .pointer (some ⟨yb, 0, none⟩), .int .i64 n] w fun e w' => e = .returned (.bool true) ∧ Within w w' := by
  obtain ⟨S, Sy, h1, h2, h3, h4⟩ := h.ex
  obtain ⟨m, hm⟩ : ∃ m : Nat, max n 0 = (m : Int) := ⟨(max n 0).toNat, by omega⟩
  by_cases hl : m < rs.length
  · exact goes_some S Sy xb yb rs h.ok h.le n m hm hl w h1 h2
  · exact goes_none S Sy xb yb rs h.ok h.le n m hm (by omega) w h1 h2
theorem bytes_pair (w0 : World) (xb yb : Nat) (rs rt : List Rec) (X : Nat → Prop) (w : World) (h : Pair w0 w xb yb rs rt X) : Calls Tryz.prog 14 #[.pointer (some ⟨xb, 0, none⟩)] w fun e w' => ∃ v, e = .returned v ∧ OwnB w' w.heap.size v (logV rs) ∧ Within w w' := by
  obtain ⟨S, Sy, h1, h2, h3, h4⟩ := h.ex
  exact Bytes_log S xb rs (logV_le (fun r hr => (h.ok r hr).parts.2.2) h.le) w h1
theorem clone_pair (w0 : World) (xb yb : Nat) (rs rt : List Rec) (X : Nat → Prop) (w : World) (h : Pair w0 w xb yb rs rt X) : Calls Tryz.prog 15 #[.pointer (some ⟨xb, 0, none⟩)] w fun e w' => ∃ nb, e = .returned (.pointer (some ⟨nb, 0, none⟩)) ∧ LogS w' (fun j => w.heap.size ≤ j ∧ j < w'.heap.size) nb rs ∧ Within w w' := by
  obtain ⟨S, Sy, h1, h2, h3, h4⟩ := h.ex
  exact Clone_log S xb rs h.ok h.le w h1 fun j hj => (h4 j (.inl hj)).1.2
set_option maxRecDepth 100000 in
set_option maxHeartbeats 4000000 in
theorem jdoes_walk (A : Option Addr) (c : Nat) (ss : List Stp) (hsl : ss.length ≤ 4398046511104) (fr : Int) (w : World) (hT : FmS w) (hs : StpAt w A ss) : Calls Tryz.prog 3 #[.slice A ss.length c, .int .i64 fr] w fun e w' => e = .returned (.bool true) ∧ Within w w' := by
  have AW := Lib.hid (fun W (h : Within w W) => jawake_true W (hT.of h))
  have HSS := Lib.hid hs; have HT := Lib.hid hT; clear hs hT
  go_enter Tryz.func3, Tryz.ntmps3
  go_wp2_with fail
  refine (New_log w).mono ?_; rintro e1 w1 ⟨xb, rfl, hX, h1⟩
  go_wp2_with fail
  refine (Rnew_any w1).mono ?_; rintro e2 w2 ⟨rfl, hw2⟩
  have h2 : Within w1 w2 := by rw [hw2]; exact (Within.refl _).alloc _
  have hY : RlogS w2 (fun j => j = w1.heap.size) w1.heap.size [] := by rw [hw2]; exact RlogS.fresh w1 _
  have hs2 : w2.heap.size = w1.heap.size + 1 := by rw [hw2]; simp
  have hP2 : Pair w w2 xb w1.heap.size [] [] NoX := ⟨⟨_, _, hX.of h2, hY, fun j h1 h2 => by omega, fun j hj => ⟨by have := h1.size; rcases hj with hj | hj <;> omega, fun h => h⟩⟩, fun q hq => (by cases hq), Nat.zero_le _, Nat.zero_le _, h1.trans h2⟩
  obtain ⟨yb, hyb⟩ : ∃ y, w1.heap.size = y := ⟨_, rfl⟩
  rw [hyb] at hP2 ⊢
  have HP2 := Lib.hid hP2; clear hP2 hX h1 hw2 h2 hY hs2 hyb
  go_wp2_with fail
  refine (AW.out w2 HP2.out.bel).mono ?_; rintro e3 w3 ⟨rfl, h3⟩
  have HP3 := Lib.hid (HP2.out.of h3); clear h3 HP2 AW
  go_wp2
  go_loopw [5, 7] (fun xv iv wr => ∃ (i xc : Nat) (rs : List Rec), i ≤ ss.length ∧ xv = .pointer (some ⟨xc, 0, none⟩) ∧ iv = .int .i64 (i : Int) ∧ Pair w wr xc yb rs rs NoX) (fun _ iv _ => ss.length - (intOf iv).toNat)
  case atStart => exact ⟨0, xb, [], Nat.zero_le _, rfl, rfl, HP3.out⟩
  case round =>
    clear HP3
    obtain ⟨i, xc, rs, hi, rfl, rfl, hP⟩ := hrel
    by_cases hlt : i < ss.length
    · obtain ⟨s, hsi⟩ : ∃ s, ss[i]? = some s := ⟨_, List.getElem?_eq_getElem hlt⟩
      obtain ⟨ad, Dv, cv, rfl, l0, x0, x1, x2, x3, hcv, hsd, hsb, hsn⟩ := HSS.out i s hsi
      have HSD := Lib.hid (fun W (h : Within w W) => hsd.of h)
      have HSB := Lib.hid hsb; have HCV := Lib.hid hcv; have HSN := Lib.hid hsn
      obtain ⟨nd, hnd⟩ : ∃ n, s.rd.length = n := ⟨_, rfl⟩
      have HND := Lib.hid hnd
      rw [hnd] at x2
      obtain ⟨k, hk0⟩ : ∃ k, s.k = k := ⟨_, rfl⟩
      obtain ⟨rk, hrk⟩ : ∃ k, s.rk = k := ⟨_, rfl⟩
      obtain ⟨n, hn⟩ : ∃ k, s.n = k := ⟨_, rfl⟩
      rw [hk0] at x0
      rw [hrk] at x1
      rw [hn] at x3
      have CE : Hid (∀ W, Within w W → W.cell? (ad.add (i * 4)) = some (.int .i64 k) ∧ W.cell? ⟨(ad.add (i * 4)).block, (ad.add (i * 4)).off + 1, none⟩ = some (.int .i64 rk) ∧ W.cell? ⟨(ad.add (i * 4)).block, (ad.add (i * 4)).off + 2, none⟩ = some (.slice Dv nd cv) ∧ W.cell? ⟨(ad.add (i * 4)).block, (ad.add (i * 4)).off + 3, none⟩ = some (.int .i64 n) ∧ ad.block < W.heap.size) := Lib.hid (fun W h => ⟨(h.cell (p := ad.add (i * 4)) (by rw [add_block]; exact l0)).trans x0, (h.cells _ _ (by rw [add_block]; exact l0)).trans x1, (h.cells _ _ (by rw [add_block]; exact l0)).trans x2, (h.cells _ _ (by rw [add_block]; exact l0)).trans x3, Nat.lt_of_lt_of_le l0 h.size⟩)
      have LK := Lib.hid (fun W xb rs h => looks_pair w xb yb rs NoX W h n)
      have HL0 := Lib.hid l0; have HP := Lib.hid hP; clear hP hsi l0 x0 x1 x2 x3 hcv hsd hsb hsn hnd hk0 hrk hn
      have b1 : (i : Int) < (ss.length : Int) := by omega
      obtain ⟨c0, c1, c2, c3, cl⟩ := CE.out _ HP.out.bel
      rcases (by omega : k = 0 ∨ k = 1 ∨ k = 2 ∨ k = 3 ∨ (k ≠ 0 ∧ k ≠ 1 ∧ k ≠ 2 ∧ k ≠ 3)) with hk | hk | hk | hk | hk
      · have e0 : (k == 0) = true := by rw [hk]; rfl
        have e1 : (k == 1) = false := beq_eq_false_iff_ne.2 (by omega)
        have e2 : (k == 2) = false := beq_eq_false_iff_ne.2 (by omega)
        have e3 : (k == 3) = false := beq_eq_false_iff_ne.2 (by omega)
        have n0 :  k = 0 := by omega
        have n1 : ¬ k = 1 := by omega
        have n2 : ¬ k = 2 := by omega
        have n3 : ¬ k = 3 := by omega
        have CP := Lib.hid (fun W (h : Within w W) => copied_big rk Dv cv s.rd HSN.out W (HSD.out W h))
        rw [HND.out] at CP
        obtain ⟨⟨ra, v1, v2⟩, hav⟩ : ∃ t, appendV rs (rk, s.rd) = t := ⟨_, rfl⟩
        have APX := Lib.hid (fun X W hX h D cd hcd hT hr => appx w xc yb rs rs X W hX h D cd rk s.rd HSB.out hcd HSN.out hT hr)
        have APY := Lib.hid (fun X W rz hX h D cd hcd hr => appy w xc yb rz rs X W hX h D cd rk s.rd HSB.out hcd HSN.out HP.out.ok hr)
        rw [hav, HND.out] at APX APY
        clear hav
        have en1 : (v1 != v1) = false := by simp
        have en2 : (v2 != v2) = false := by simp
        go_wp2_with fail
        refine (CP.out _ HP.out.bel).mono ?_; rintro e4 w4 ⟨v4, rfl, hO4, h4⟩
        obtain ⟨rb, hrb⟩ : ∃ b, w4.heap.size = b := ⟨_, rfl⟩
        obtain ⟨A4, c4, gg, rfl, hc4, hgg, hs4, hU4, hz4⟩ := hO4.u8s HSB.out (rb + 1) (Nat.le_succ_of_le (by rw [← hrb]; exact h4.size))
        rw [HND.out] at hc4 hU4 hz4 ⊢
        obtain ⟨W1, hW1⟩ : ∃ W, W = w4.alloc (.cells #[.int .i64 rk, .slice A4 nd c4] 30) := ⟨_, rfl⟩
        have i1 : Within w4 W1 := by rw [hW1]; exact (Within.refl _).alloc _
        have s1 : W1.heap.size = rb + 1 := by rw [hW1]; simp [hrb]
        have b0 : W1.cell? ⟨rb, 0, none⟩ = some (.int .i64 rk) := by rw [hW1, ← hrb]; simp
        have bb1 : W1.cell? ⟨rb, 1, none⟩ = some (.slice A4 nd c4) := by rw [hW1, ← hrb]; simp
        have bl : rb < W1.heap.size := World.block_lt_of_cell? _ _ b0
        have hrw : wr.heap.size ≤ rb := by rw [← hrb]; exact h4.size
        have hwr := HP.out.bel.size
        have hU1 : 0 < nd → A4 = some ⟨gg, 0, none⟩ ∧ gg < rb ∧ U8s W1 gg nd := fun h => ⟨(hU4 h).1, by rw [← hrb]; exact (hU4 h).2.1, (hU4 h).2.2.of i1 (hU4 h).2.1⟩
        have hP1 := HP.out.fresh (h4.trans i1)
        have hs1 := hs4.of i1
        have hT1 := HT.out.of (HP.out.bel.trans (h4.trans i1))
        obtain ⟨X, hX⟩ : ∃ X : Nat → Prop, (fun j => wr.heap.size ≤ j ∧ j < W1.heap.size) = X := ⟨_, rfl⟩
        rw [hX] at hP1
        have hXr : X rb := by rw [← hX]; exact ⟨hrw, bl⟩
        have hXg : 0 < nd → X gg := fun h => by rw [← hX]; exact ⟨hgg, by have := (hU1 h).2.1; omega⟩
        have hXl : ∀ j, X j → j < W1.heap.size := fun j hj => by rw [← hX] at hj; exact hj.2
        have HXR := Lib.hid hXr; have HXG := Lib.hid hXg; have HXL := Lib.hid hXl; have HU1 := Lib.hid hU1; have HP1 := Lib.hid hP1; have HS1 := Lib.hid hs1; have HT1 := Lib.hid hT1; have HC4 := Lib.hid hc4; have HGG := Lib.hid hgg; have HWR := Lib.hid hwr; have HB0 := Lib.hid b0; have HB1 := Lib.hid bb1; have HBL := Lib.hid bl; have HW1 := Lib.hid hW1; clear hX hXr hXg hXl hU1 hU4 hP1 hs1 hs4 hT1 hc4 hgg hz4 hO4 h4 i1 hwr hW1 bb1 b0
        go_wp2_with fail
        rw [← HW1.out]
        refine (APX.out X W1 HXL.out HP1.out A4 c4 HC4.out HT1.out HS1.out).mono ?_; rintro e5 w5 ⟨rfl, hP5, hB5⟩
        have nX : ∀ j, X j → ¬ Away w X j := fun j hj h => h.2 hj
        have k0 := (hB5.cells rb 0 HBL.out (nX _ HXR.out)).trans HB0.out
        have k1 := (hB5.cells rb 1 HBL.out (nX _ HXR.out)).trans HB1.out
        have kl := Nat.lt_of_lt_of_le HBL.out hB5.size
        have hU5 : 0 < nd → U8s w5 gg nd := fun h => ⟨fun j hj => by obtain ⟨x, hx, hc⟩ := (HU1.out h).2.2.1 j hj; exact ⟨x, hx, (hB5.cells gg j (HXL.out _ (HXG.out h)) (nX _ (HXG.out h))).trans hc⟩, fun o => (hB5.frozens gg o (HXL.out _ (HXG.out h)) (nX _ (HXG.out h))).trans ((HU1.out h).2.2.2 o)⟩
        obtain ⟨d0, dd1, d2, d3, dl⟩ := CE.out _ hP5.bel
        have HP5 := Lib.hid hP5; have HU5 := Lib.hid hU5; have HZ5 := Lib.hid hB5.size; have NX := Lib.hid nX; have HD5 := Lib.hid (HSD.out _ hP5.bel); clear hP5 hU5 hB5 nX
        go_wp2_with fail
        go_wp2_with fail
        refine (APY.out X w5 ra (fun j hj => Nat.lt_of_lt_of_le (HXL.out j hj) HZ5.out) HP5.out Dv cv (by have := HCV.out; have := HND.out; omega) HD5.out).mono ?_; rintro e6 w6 ⟨rfl, hP6, hB6⟩
        have k0 := (hB6.cells rb 0 kl (NX.out _ HXR.out)).trans k0
        have k1 := (hB6.cells rb 1 kl (NX.out _ HXR.out)).trans k1
        have kl := Nat.lt_of_lt_of_le kl hB6.size
        have hU6 : 0 < nd → U8s w6 gg nd := fun h => ⟨fun j hj => by obtain ⟨x, hx, hc⟩ := (HU5.out h).1 j hj; exact ⟨x, hx, (hB6.cells gg j (Nat.lt_of_lt_of_le (HXL.out _ (HXG.out h)) HZ5.out) (NX.out _ (HXG.out h))).trans hc⟩, fun o => (hB6.frozens gg o (Nat.lt_of_lt_of_le (HXL.out _ (HXG.out h)) HZ5.out) (NX.out _ (HXG.out h))).trans ((HU5.out h).2 o)⟩
        have HP6 := Lib.hid hP6; have HU6 := Lib.hid hU6; have HL6 : Hid (0 < nd → gg < w6.heap.size) := Lib.hid (fun h => Nat.lt_of_lt_of_le (Nat.lt_of_lt_of_le (HXL.out _ (HXG.out h)) HZ5.out) hB6.size); have HK0 := Lib.hid k0; have HK1 := Lib.hid k1; have HKL := Lib.hid kl; clear hP6 hU6 hB6 d0 dd1 d2 d3 dl HP5 HU5 HD5 HS1 HP1
        have hnr : 0 < nd → gg ≠ rb := fun h => by have := (HU1.out h).2.1; omega
        have HNR := Lib.hid hnr; clear hnr
        go_wp2
        go_loopw [13] (fun jv wz => ∃ j : Nat, j ≤ nd ∧ jv = .int .i64 (j : Int) ∧ ButS (fun b => 0 < nd ∧ b = gg) w6 wz ∧ (0 < nd → U8s wz gg nd)) (fun jv _ => nd - (intOf jv).toNat)
        case atStart => exact ⟨0, Nat.zero_le _, rfl, ButS.refl _ _, HU6.out⟩
        case round =>
          obtain ⟨j, hj, rfl, hbut, hu⟩ := hrel
          have k1 := (hbut.cells rb 1 HKL.out (fun h => HNR.out h.1 h.2.symm)).trans HK1.out
          have kl := Nat.lt_of_lt_of_le HKL.out hbut.size
          have hndb := HSN.out
          rw [HND.out] at hndb
          by_cases hlt2 : j < nd
          · obtain ⟨hA, _, _⟩ := HU1.out (by omega)
            subst hA
            obtain ⟨x, hxl, cx⟩ := (hu (by omega)).1 j hlt2
            have fx := (hu (by omega)).2
            have gl : gg < wr.heap.size := Nat.lt_of_lt_of_le (HL6.out (by omega)) hbut.size
            have hc4 := HC4.out
            have hxor := u8_xor_nat x 85 hxl (by decide)
            have hnl : x ^^^ 85 < 256 := Nat.xor_lt_two_pow (n := 8) hxl (by decide)
            have hxor' : bits .xor .u8 (x : Int) 85 = ((x ^^^ 85 : Nat) : Int) := hxor
            have HNL := Lib.hid hnl; clear hxor hnl
            obtain ⟨xx, hxx⟩ : ∃ xx, x ^^^ 85 = xx := ⟨_, rfl⟩
            rw [hxx] at HNL hxor'
            clear hxx
            have lt1 : (j : Int) < (nd : Int) := by omega
            have gl0 := Lib.hid gl; have HBUT := Lib.hid hbut; have HUU := Lib.hid (hu (by omega)); clear hbut hu
            go_wp2_with fail
            refine wp_region_schG (fun W => W.cell? ⟨rb, 1, none⟩ = some (.slice (some ⟨gg, 0, none⟩) nd c4) ∧ W.cell? ⟨gg, j, none⟩ = some (.int .u8 (x : Int)) ∧ (∀ o, W.frozen? ⟨gg, o, none⟩ = false) ∧ rb < W.heap.size ∧ gg < W.heap.size ∧ Within wr W) 10 (.firm 0 (.firm 1 (.firm 2 (.firm 3 (.firm 4 (.firm 5 (.firm 6 (.firm 7 (.firm 8 (.firm 9 (.one 10 .nil))))))))))) (by kernel_rfl) (by kernel_rfl) ⟨k1, cx, fx, kl, gl, Within.refl _⟩ ?_
            rintro w0 ⟨k1, cx, fx, kl, gl, hw7⟩
            try simp only [Act.put, List.setIfInBounds_toArray, List.set_cons_zero, List.set_cons_succ]
            iterate 10
              apply sch_firm rfl rfl (by repeat (first | with_reducible exact Within.refl _ | with_reducible assumption | with_reducible refine Within.alloc ?_ _ | with_reducible refine Within.drew ?_ | with_reducible refine Within.drewN ?_ _ | with_reducible refine Within.setCell ?_ (by first | (simp; done) | (simp; omega)) _ | with_reducible refine Within.trans ?_ (by assumption)))
              · intro wq hq
                have hcq := hq.cells
                clear hq
                go_simp
                rfl
              try simp only [Act.put, List.setIfInBounds_toArray, List.set_cons_zero, List.set_cons_succ]
            refine sch_one rfl rfl (fun K hK => ?_)
            go_simp
            refine hK _ _ (fun h => absurd h (by decide)) ?_
            clear hK K
            try simp only [Act.put, List.setIfInBounds_toArray, List.set_cons_zero, List.set_cons_succ]
            refine sch_nil ?_
            have hu7 := (HUU.out.of hw7 gl0.out).set j xx HNL.out
            have hb7 := (HBUT.out.within hw7).set (p := ⟨gg, j, none⟩) (.inl ⟨by omega, rfl⟩) (.int .u8 (xx : Int))
            have HU7 := Lib.hid hu7; have HB7 := Lib.hid hb7; clear hu7 hb7
            go_wp2
            go_roundw
            case rel => exact ⟨j + 1, hlt2, by go_num, by first | exact HB7.out | exact HB7.out.drew, fun _ => by first | exact HU7.out | exact HU7.out.of ((Within.refl _).drew) (by show gg < (World.setCell _ _ _).heap.size; simpa [World.setCell] using gl)⟩
            case measure => simp [intOf]; omega
          · obtain rfl : j = nd := by omega
            have hP9 := (HP6.out.butS hbut (fun b hb => ⟨by rw [hb.2]; exact HXG.out hb.1, by rw [hb.2]; exact Nat.le_trans HWR.out HGG.out⟩)).drop
            have HPF := Lib.hid hP9; clear hP9 hbut hu
            obtain ⟨t0, t1, t2, t3, t4⟩ := CE.out _ HPF.out.bel
            go_wp2_with fail
            refine (LK.out _ _ _ HPF.out).mono ?_; rintro e9 w9 ⟨rfl, h9⟩
            have HP9 := Lib.hid (HPF.out.of h9); clear h9 t0 t1 t2 t3 t4
            go_wp2
            go_roundw
            case rel => exact ⟨i + 1, xc, _, hlt, by first | rfl | trivial, by go_num, HP9.out⟩
            case measure => simp [intOf]; omega
      · have e0 : (k == 0) = false := beq_eq_false_iff_ne.2 (by omega)
        have e1 : (k == 1) = true := by rw [hk]; rfl
        have e2 : (k == 2) = false := beq_eq_false_iff_ne.2 (by omega)
        have e3 : (k == 3) = false := beq_eq_false_iff_ne.2 (by omega)
        have n0 : ¬ k = 0 := by omega
        have n1 :  k = 1 := by omega
        have n2 : ¬ k = 2 := by omega
        have n3 : ¬ k = 3 := by omega
        obtain ⟨⟨rc, v1⟩, hcv⟩ : ∃ t, cutV rs n = t := ⟨_, rfl⟩
        have CX := Lib.hid (fun W h => cutx w xc yb rs rs NoX W (fun j hj => hj.elim) h n)
        have CY := Lib.hid (fun W rz h => cuty w xc yb rz rs NoX W (fun j hj => hj.elim) h n HP.out.ok)
        rw [hcv] at CX CY
        clear hcv
        have en1 : (v1 != v1) = false := by simp
        have CLL := Lib.hid cl
        go_wp2_with fail
        refine wp_region_schT (fun j => w.heap.size ≤ j) (fun W => W.cell? ⟨(ad.add (i * 4)).block, (ad.add (i * 4)).off + 3, none⟩ = some (.int .i64 n) ∧ ad.block < W.heap.size ∧ Pair w W xc yb rs rs NoX) 14 (.firm 0 (.firm 1 (.firm 2 (.firm 3 (.firm 4 (.firm 5 (.firm 7 (.firm 8 (.firm 9 (.firm 10 (.firm 11 (.firm 12 (.one 6 (.one 13 (.one 14 .nil))))))))))))))) (by kernel_rfl) (by kernel_rfl) ⟨c3, cl, HP.out⟩ ?_
        rintro w0 ⟨c3, cl, hP0⟩
        try simp only [Act.put, List.setIfInBounds_toArray, List.set_cons_zero, List.set_cons_succ]
        iterate 12
          apply sch_firm rfl rfl (by repeat (first | with_reducible exact ButS.refl _ _ | with_reducible assumption | with_reducible refine ButS.drew ?_ | with_reducible refine ButS.alloc ?_ _ | with_reducible refine ButS.within ?_ (by assumption)))
          · intro wq hq
            have g0 := (hq.cells (ad.add (i * 4)).block ((ad.add (i * 4)).off + 3) (by rw [add_block]; exact cl) (fun h => absurd h (by rw [add_block]; exact Nat.not_le.2 HL0.out))).trans c3
            have gl := Nat.lt_of_lt_of_le cl hq.size
            clear hq
            go_simp
            rfl
          try simp only [Act.put, List.setIfInBounds_toArray, List.set_cons_zero, List.set_cons_succ]
        refine sch_one rfl rfl (fun K hK => ?_)
        go_simp
        refine (CX.out _ (by first | exact hP0 | exact hP0.of ((Within.refl _).drew))).mono ?_; rintro e4 w4 ⟨rfl, hP4, hB4⟩
        have hT4 : ButS (fun j => w.heap.size ≤ j) w0 w4 := by first | exact hB4.mono (fun j _ h => h.1) | exact (ButS.in_ ((Within.refl w0).drew)).trans hB4 (fun j _ h => h.1)
        refine hK _ _ (fun _ => (by repeat (first | with_reducible exact ButS.refl _ _ | with_reducible assumption | with_reducible refine ButS.drew ?_ | with_reducible refine ButS.alloc ?_ _ | with_reducible refine ButS.within ?_ (by assumption)))) ?_
        clear hK K
        try simp only [Act.put, List.setIfInBounds_toArray, List.set_cons_zero, List.set_cons_succ]
        refine sch_one rfl rfl (fun K hK => ?_)
        go_simp
        refine (CY.out _ _ hP4).mono ?_; rintro e5 w5 ⟨rfl, hP5, hB5⟩
        have hT5 : ButS (fun j => w.heap.size ≤ j) w0 w5 := hT4.trans hB5 (fun j _ h => h.1)
        refine hK _ _ (fun _ => (by repeat (first | with_reducible exact ButS.refl _ _ | with_reducible assumption | with_reducible refine ButS.drew ?_ | with_reducible refine ButS.alloc ?_ _ | with_reducible refine ButS.within ?_ (by assumption)))) ?_
        clear hK K
        try simp only [Act.put, List.setIfInBounds_toArray, List.set_cons_zero, List.set_cons_succ]
        refine sch_one rfl rfl (fun K hK => ?_)
        go_simp
        refine hK _ _ (fun h => absurd h (by decide)) ?_
        clear hK K
        try simp only [Act.put, List.setIfInBounds_toArray, List.set_cons_zero, List.set_cons_succ]
        refine sch_nil ?_
        have HPF := Lib.hid hP5; clear hP0 hP4 hP5 hT4 hT5 hB4 hB5
        obtain ⟨t0, t1, t2, t3, t4⟩ := CE.out _ HPF.out.bel
        go_wp2_with fail
        refine (LK.out _ _ _ HPF.out).mono ?_; rintro e9 w9 ⟨rfl, h9⟩
        have HP9 := Lib.hid (HPF.out.of h9); clear h9 t0 t1 t2 t3 t4
        go_wp2
        go_roundw
        case rel => exact ⟨i + 1, xc, _, hlt, by first | rfl | trivial, by go_num, HP9.out⟩
        case measure => simp [intOf]; omega
      · have e0 : (k == 0) = false := beq_eq_false_iff_ne.2 (by omega)
        have e1 : (k == 1) = false := beq_eq_false_iff_ne.2 (by omega)
        have e2 : (k == 2) = true := by rw [hk]; rfl
        have e3 : (k == 3) = false := beq_eq_false_iff_ne.2 (by omega)
        have n0 : ¬ k = 0 := by omega
        have n1 : ¬ k = 1 := by omega
        have n2 :  k = 2 := by omega
        have n3 : ¬ k = 3 := by omega
        have BX := Lib.hid (bytes_pair w xc yb rs rs NoX wr HP.out)
        have hrd := logRead_log HP.out.ok HP.out.le
        have hbt := log_bytes HP.out.ok
        have htk := log_take rs
        have hlog := logV_le (fun r hr => (HP.out.ok r hr).parts.2.2) HP.out.le
        have OX := Lib.hid (fun A c (hc : (logV rs).length ≤ c) W (hw : Within w W) (hs : SlAt W A (u8v (logV rs))) => Open_any A c (logV rs) hbt (by omega) hc W (HT.out.of hw) hs)
        rw [hrd] at OX
        obtain ⟨m, hm⟩ : ∃ m, (logV rs).length = m := ⟨_, rfl⟩
        rw [hm] at OX
        have HM := Lib.hid hm; have HTK := Lib.hid htk; clear hrd hbt htk hlog hm
        go_wp2_with fail
        refine BX.out.mono ?_; rintro e4 w4 ⟨v4, rfl, hO4, h4⟩
        obtain ⟨A4, c4, rfl, hc4, hs4, _⟩ := hO4.form
        rw [HM.out] at hc4 ⊢
        have HO := Lib.hid (OX.out A4 c4 hc4 w4 (HP.out.bel.trans h4) hs4)
        have H4 := Lib.hid h4; clear hO4 h4 hs4 hc4
        go_wp2_with fail
        refine HO.out.mono ?_; rintro e5 w5 hq; rcases hq with ⟨hno, _⟩ | ⟨_, nb, rfl, hL5, h5⟩
        · exact absurd HTK.out hno
        have hw5 := H4.out.trans h5
        have hP5 : Pair w w5 nb yb rs rs NoX := (HP.out.fresh hw5).take hL5 (fun j hj => by have h1 := H4.out.size; have h2 := HP.out.bel.size; exact ⟨⟨by omega, hj.2⟩, by omega, hj.2⟩) HP.out.ok HP.out.le
        have hP6 := hP5.of ((Within.refl w5).alloc (.cells #[.int .i64 0, .int .i64 (m : Int)] 42))
        have HPF := Lib.hid hP6; clear hL5 h5 hw5 hP5 hP6
        obtain ⟨t0, t1, t2, t3, t4⟩ := CE.out _ HPF.out.bel
        go_wp2_with fail
        refine (LK.out _ _ _ HPF.out).mono ?_; rintro e9 w9 ⟨rfl, h9⟩
        have HP9 := Lib.hid (HPF.out.of h9); clear h9 t0 t1 t2 t3 t4
        go_wp2
        go_roundw
        case rel => exact ⟨i + 1, nb, _, hlt, by first | rfl | trivial, by go_num, HP9.out⟩
        case measure => simp [intOf]; omega
      · have e0 : (k == 0) = false := beq_eq_false_iff_ne.2 (by omega)
        have e1 : (k == 1) = false := beq_eq_false_iff_ne.2 (by omega)
        have e2 : (k == 2) = false := beq_eq_false_iff_ne.2 (by omega)
        have e3 : (k == 3) = true := by rw [hk]; rfl
        have n0 : ¬ k = 0 := by omega
        have n1 : ¬ k = 1 := by omega
        have n2 : ¬ k = 2 := by omega
        have n3 :  k = 3 := by omega
        have CLN := Lib.hid (clone_pair w xc yb rs rs NoX wr HP.out)
        have CP := Lib.hid (fun W => copied_big 3 none 0 [] (by simp) W SlAt.nil)
        simp only [List.length_nil] at CP
        obtain ⟨⟨ra, v1, v2⟩, hav⟩ : ∃ t, appendV rs ((3 : Int), ([] : List Nat)) = t := ⟨_, rfl⟩
        have APX := Lib.hid (fun X W hX h D cd hT => appx w xc yb rs rs X W hX h D cd 3 [] (fun x hx => by cases hx) (by simp) (by simp) hT SlAt.nil)
        rw [hav] at APX
        simp only [List.length_nil] at APX
        clear hav
        go_wp2_with fail
        refine CLN.out.mono ?_; rintro e4 w4 ⟨nb, rfl, hL4, h4⟩
        have HL4 := Lib.hid hL4; have H4 := Lib.hid h4; clear hL4 h4
        go_wp2_with fail
        refine (CP.out w4).mono ?_; rintro e5 w5 ⟨v5, rfl, hO5, h5⟩
        obtain ⟨A5, c5, rfl, _, _, _⟩ := hO5.form
        have hP5 := HP.out.fresh (H4.out.trans h5)
        have hT5 := HT.out.of (HP.out.bel.trans (H4.out.trans h5))
        obtain ⟨X, hX⟩ : ∃ X : Nat → Prop, (fun j => wr.heap.size ≤ j ∧ j < w5.heap.size) = X := ⟨_, rfl⟩
        rw [hX] at hP5
        have hXl : ∀ j, X j → j < w5.heap.size := fun j hj => by rw [← hX] at hj; exact hj.2
        have hXn : ∀ j, wr.heap.size ≤ j → j < w5.heap.size → X j := fun j h1 h2 => by rw [← hX]; exact ⟨h1, h2⟩
        have HXL := Lib.hid hXl; have HXN := Lib.hid hXn; have HP5 := Lib.hid hP5; have HT5 := Lib.hid hT5; have H5 := Lib.hid h5; clear hX hXl hXn hP5 hT5 h5 hO5
        go_wp2_with fail
        refine (APX.out X w5 HXL.out HP5.out A5 c5 HT5.out).mono ?_; rintro e6 w6 ⟨rfl, hP6, hB6⟩
        have hL6 := (HL4.out.of H5.out).butS hB6 (fun j hj hl ha => ha.2 (HXN.out j hj.1 hl))
        have hP7 : Pair w w6 nb yb rs rs NoX := hP6.take hL6 (fun j hj => by have h1 := H5.out.size; have h2 := HP.out.bel.size; have h3 := hB6.size; exact ⟨HXN.out j hj.1 (by omega), by omega, by omega⟩) HP.out.ok HP.out.le
        have HPF := Lib.hid hP7; clear hL6 hP6 hP7 hB6
        obtain ⟨t0, t1, t2, t3, t4⟩ := CE.out _ HPF.out.bel
        go_wp2_with fail
        refine (LK.out _ _ _ HPF.out).mono ?_; rintro e9 w9 ⟨rfl, h9⟩
        have HP9 := Lib.hid (HPF.out.of h9); clear h9 t0 t1 t2 t3 t4
        go_wp2
        go_roundw
        case rel => exact ⟨i + 1, nb, _, hlt, by first | rfl | trivial, by go_num, HP9.out⟩
        case measure => simp [intOf]; omega
      · have e0 : (k == 0) = false := beq_eq_false_iff_ne.2 (by omega)
        have e1 : (k == 1) = false := beq_eq_false_iff_ne.2 (by omega)
        have e2 : (k == 2) = false := beq_eq_false_iff_ne.2 (by omega)
        have e3 : (k == 3) = false := beq_eq_false_iff_ne.2 (by omega)
        have n0 : ¬ k = 0 := by omega
        have n1 : ¬ k = 1 := by omega
        have n2 : ¬ k = 2 := by omega
        have n3 : ¬ k = 3 := by omega
        obtain ⟨t0, t1, t2, t3, t4⟩ := CE.out _ HP.out.bel
        go_wp2_with fail
        refine (LK.out _ _ _ HP.out).mono ?_; rintro e9 w9 ⟨rfl, h9⟩
        have HP9 := Lib.hid (HP.out.of h9); clear h9 t0 t1 t2 t3 t4
        go_wp2
        go_roundw
        case rel => exact ⟨i + 1, xc, _, hlt, by first | rfl | trivial, by go_num, HP9.out⟩
        case measure => simp [intOf]; omega
    · obtain rfl : i = ss.length := by omega
      have GS := Lib.hid (goes_pair w xc yb rs NoX wr hP fr)
      have HPB := Lib.hid hP.bel; clear hP
      have b2 : decide ((ss.length : Int) < (ss.length : Int)) = false := decide_eq_false (by omega)
      go_wp2_with fail
      refine GS.out.mono ?_; rintro e8 w8 ⟨rfl, h8⟩
      go_wp2
      go_ret
      exact ⟨rfl, HPB.out.trans h8⟩
end Go.Proofs.YtpmjlaiafgbjgaaGreatDoor
end

section
namespace Go.Proofs.YtpmjlaiafgbjgaaGreatDoor.Base
open Go.ChangeShapes Go.WideShapes Go.ChangeAt Go.RowKit
theorem own : ownKnob Tryz.prog.godebug = none := by kernel_rfl
theorem laidOut : laidOutB Tryz.prog = true := by kernel_rfl
theorem gS : Tryz.prog.globalNamed "binnacle/convert.single" = some 1 := by kernel_rfl
theorem gST : (Tryz.prog.globals[1]?).map (·.type) = some 148 := by kernel_rfl
theorem cellsI : Tryz.prog.cellsOf 3 = 1 := by kernel_rfl
theorem fmt_cells {W : World} {name : String} {g : Nat} {a b c : Int} {rest : List (String × DataW Unit)} {ps : List MemPlace}
    (hg : Tryz.prog.globalNamed name = some g) (hty : (Tryz.prog.globals[g]?).map (·.type) = some 148)
    (h : DataW.LaidVars Tryz.prog W ((name, .agg [.lit (.int .i64 a), .lit (.int .i64 b), .lit (.int .i64 c)]) :: rest) ps) :
    (W.cell? ⟨g, 0, none⟩ = some (.int .i64 a) ∧ W.cell? ⟨g, 1, none⟩ = some (.int .i64 b) ∧ W.cell? ⟨g, 2, none⟩ = some (.int .i64 c)) ∧ ∃ q, DataW.LaidVars Tryz.prog W rest q := by
  obtain ⟨g', t', cs, fuel, p, q, hg', ht', hvar, hd, hr, _⟩ := h
  obtain rfl := Option.some.inj (hg.symm.trans hg')
  obtain rfl := Option.some.inj (hty.symm.trans ht')
  obtain ⟨y0, y1, y2, n, hx, hl, h0, h1, h2⟩ := Go.Deep.trod_struct3 Tryz.underlying148 hd
  obtain ⟨c0, e0, x0, _⟩ := DataW.trod_int Tryz.underlying3 h0
  obtain ⟨c1, e1, x1, _⟩ := DataW.trod_int Tryz.underlying3 h1
  obtain ⟨c2, e2, x2, _⟩ := DataW.trod_int Tryz.underlying3 h2
  subst x0 x1 x2
  have hx1 := congrArg Prod.fst hx
  simp at hx1
  obtain ⟨rfl, rfl, rfl⟩ := hx1
  have v := World.var?_cell hg hvar
  refine ⟨⟨?_, ?_, ?_⟩, q, hr⟩
  · rw [v 0]
    have := congrArg (·[0]?) e0
    simpa [cellsI, List.getElem?_take, List.getElem?_drop] using this
  · rw [v 1]
    have := congrArg (·[0]?) e1
    simpa [cellsI, List.getElem?_take, List.getElem?_drop] using this
  · rw [v 2]
    have := congrArg (·[0]?) e2
    simpa [cellsI, List.getElem?_take, List.getElem?_drop] using this
theorem fmS {W : World} {rest : List (String × DataW Unit)} (h : laidMet Tryz.prog (("binnacle/convert.single", Rows.laid_binnacle_convert_single) :: rest) W) : FmS W := by
  obtain ⟨ps, h1, _⟩ := h
  exact (fmt_cells gS gST h1).1
def layVar (g : Nat) (cs : Array Value) (h : Array Obj) : Array Obj := h.modify g fun
  | .cells _ t frozen => .cells cs t frozen
  | o => o
noncomputable def laidWorld (os : Os) : World :=
  { World.holding Tryz.prog os ⟨#[], #[], []⟩ with heap := layVar 1 #[.int .i64 24, .int .i64 (-126), .int .i64 127] (World.holding Tryz.prog os ⟨#[], #[], []⟩).heap }
section
variable {H : Type} {enc : TypeId × Value → H} {W : World}
theorem open_ns {t e : TypeId} {k : IntKind} {y : Nat} (ht : Tryz.prog.underlying t = some (.slice e)) (he : Tryz.prog.underlying e = some (.int k)) (hc : Tryz.prog.cellsOf e = 1) (hy : Tryz.prog.bytesOf e = y) {fuel : Nat} {v : Value} {x : DataW H × List MemPlace}
    (h : DataW.trod enc Tryz.prog W 0 (fun _ => true) true fuel t [v] = some x) (hz : ∀ n ∈ x.1.weights Tryz.prog t, n ≤ reachBytes) :
    ∃ (a0 : Option Addr) (cap : Nat) (zs : List Int), v = .slice a0 zs.length cap ∧ zs.length ≤ cap ∧ zs.length * y ≤ reachBytes ∧ (∀ n ∈ zs, (Lit.int k n).wf = true) ∧ SlAt W a0 (zs.map (Value.int k)) := by
  rcases open_ints ht he hc h with ⟨hcs, hx⟩ | ⟨a, len, cap, zs, hcs, _, hl, hm, hzl, hx, hcell, hwz⟩
  · simp at hcs
    exact ⟨none, 0, [], hcs, Nat.le_refl _, by simp, (fun n hn => absurd hn (by simp)), SlAt.nil⟩
  · simp at hcs
    simp only [if_true] at hzl
    subst hx
    have hlen : (zs.take len).length = len := by rw [List.length_take]; omega
    refine ⟨some a, cap, zs.take len, by rw [hlen]; exact hcs, by rw [hlen]; exact hl, ?_, fun n hn => hwz n (List.mem_of_mem_take hn), fun hn => ?_⟩
    · have hw := hz (cap * y) (by
        rw [DataW.weights, ht]
        refine List.mem_cons.2 (.inl ?_)
        rw [hy, show (lits (H := H) k (zs.take len)).length + (lits (H := H) k (zs.drop len)).length = cap by
          unfold lits; rw [List.length_map, List.length_map, List.length_take, List.length_drop]; omega])
      rw [hlen]
      exact Nat.le_trans (Nat.mul_le_mul_right _ hl) hw
    · rw [List.length_map, hlen] at hn
      have h0 := hcell 0 (by omega)
      refine ⟨a, rfl, by have := World.block_lt_of_cell? _ _ h0; rwa [add_block] at this, fun j u hu => ?_⟩
      rw [List.getElem?_map, Option.map_eq_some_iff] at hu
      obtain ⟨z, hz1, rfl⟩ := hu
      obtain ⟨hj, hz2⟩ := List.getElem?_eq_some_iff.1 hz1
      rw [hlen] at hj
      rw [hcell j (by omega)]
      rw [List.getElem_take] at hz2
      simp [List.getD, List.getElem?_eq_getElem (show j < zs.length by omega), hz2]
theorem nats_of {k : IntKind} {m : Nat} (hk : ∀ n : Int, (Lit.int k n).wf = true → 0 ≤ n ∧ n < m) {zs : List Int} (h : ∀ n ∈ zs, (Lit.int k n).wf = true) : ∃ l : List Nat, zs = l.map (fun (x : Nat) => (x : Int)) ∧ ∀ x ∈ l, x < m := by
  refine ⟨zs.map Int.toNat, ?_, fun x hx => ?_⟩
  · rw [List.map_map]
    conv => lhs; rw [← List.map_id zs]
    refine List.map_congr_left fun n hn => ?_
    have := (hk n (h n hn)).1
    simp only [id, Function.comp]; omega
  · obtain ⟨n, hn, rfl⟩ := List.mem_map.1 hx
    have := hk n (h n hn)
    omega
theorem wf_u8 (n : Int) (h : (Lit.int .u8 n).wf = true) : 0 ≤ n ∧ n < (256 : Nat) := by
  simp only [Lit.wf, Bool.and_eq_true, decide_eq_true_eq] at h
  have h1 : (0 : Int) ≤ n := h.1
  have h2 : n ≤ 255 := h.2
  omega
set_option maxRecDepth 100000 in
theorem open_u8 {fuel : Nat} {v : Value} {x : DataW H × List MemPlace} (h : DataW.trod enc Tryz.prog W 0 (fun _ => true) true fuel 28 [v] = some x) (hz : ∀ n ∈ x.1.weights Tryz.prog 28, n ≤ reachBytes) :
    ∃ (a0 : Option Addr) (cap : Nat) (l : List Nat), v = .slice a0 l.length cap ∧ l.length ≤ cap ∧ l.length ≤ 140737488355328 ∧ Bytes l ∧ SlAt W a0 (u8v l) := by
  obtain ⟨a0, cap, zs, h1, h2, h3, h4, h5⟩ := open_ns (y := 1) Tryz.underlying28 Tryz.underlying5 (by kernel_rfl) (by kernel_rfl) h hz
  obtain ⟨l, rfl, hl⟩ := nats_of wf_u8 h4
  rw [List.length_map] at h1 h2 h3
  refine ⟨a0, cap, l, h1, h2, ?_, hl, ?_⟩
  · have : reachBytes = 140737488351232 := rfl
    omega
  · unfold u8v; rw [List.map_map] at h5; exact h5
theorem wt_of {ts : List TypeId} {ds : List (DataW H)} (h : (DataW.weightsEach Tryz.prog ts ds).all (· ≤ reachBytes) = true) {j : Nat} {t : TypeId} {d : DataW H} (ht : ts[j]? = some t) (hd : ds[j]? = some d) : ∀ n ∈ d.weights Tryz.prog t, n ≤ reachBytes :=
  fun n hn => of_decide_eq_true (List.all_eq_true.1 h n (DataW.weights_mem_each ht hd n hn))
end
end Go.Proofs.YtpmjlaiafgbjgaaGreatDoor.Base
end

section
namespace Go.Proofs.YtpmjlaiafgbjgaaGreatDoor.Base
open Go.ChangeShapes Go.WideShapes Go.ChangeAt Go.RowKit
section
variable {H : Type} {enc : TypeId × Value → H} {W : World}
theorem weightsAll_mem {P : Program} {e : TypeId} {d : DataW H} : ∀ {l : List (DataW H)}, d ∈ l → ∀ n ∈ d.weights P e, n ∈ DataW.weightsAll P e l
  | [], h, _, _ => by cases h
  | x :: r, h, n, hn => by
    rw [DataW.weightsAll, List.mem_append]
    rcases List.mem_cons.1 h with rfl | h
    · exact .inl hn
    · exact .inr (weightsAll_mem h n hn)
theorem chosen {α : Type} [Inhabited α] {m : Nat} {p : Nat → α → Prop} (h : ∀ i, i < m → ∃ v, p i v) : ∃ V : Nat → α, ∀ i, i < m → p i (V i) := by
  classical
  refine ⟨fun i => if hi : i < m then (h i hi).choose else default, fun i hi => ?_⟩
  simp only [dif_pos hi]
  exact (h i hi).choose_spec
set_option maxRecDepth 100000 in
theorem recCells : Tryz.prog.cellsOf 30 = 2 := by kernel_rfl
theorem open_list2 {P : Program} {w : World} {base : Nat} {spare : Nat → Bool} {held : Bool} {t : TypeId} {f0 f1 : Field} {fuel : Nat} {c0 c1 : Value} {x : DataW H × List MemPlace} (hs : P.underlying t = some (.struct #[f0, f1])) (hone : Go.Deep.oneCellFields P #[f0, f1] = true)
    (h : DataW.trod enc P w base spare held fuel t [c0, c1] = some x) :
    ∃ (y0 y1 : DataW H × List MemPlace) (n : Nat), x = (.agg [y0.1, y1.1], y0.2 ++ y1.2) ∧ DataW.trod enc P w base spare held n f0.type [c0] = some y0 ∧ DataW.trod enc P w base spare held n f1.type [c1] = some y1 := by
  obtain ⟨y0, y1, n, hx, _, h0, h1⟩ := trod_struct2 hs h
  obtain ⟨o0, k0⟩ := Go.Deep.hone_of hone 0 f0 rfl
  obtain ⟨o1, k1⟩ := Go.Deep.hone_of hone 1 f1 rfl
  exact ⟨y0, y1, n, hx, by simpa [o0, k0] using h0, by simpa [o1, k1] using h1⟩
end
end Go.Proofs.YtpmjlaiafgbjgaaGreatDoor.Base
end

section
namespace Go.Proofs.YtpmjlaiafgbjgaaGreatDoor.Base
open Go.ChangeShapes Go.WideShapes Go.ChangeAt Go.RowKit
section
variable {H : Type} {enc : TypeId × Value → H} {W : World}
set_option maxRecDepth 100000 in
theorem stepCells : Tryz.prog.cellsOf 32 = 4 := by kernel_rfl
set_option maxRecDepth 100000 in
theorem stepBytes : Tryz.prog.bytesOf 32 = 48 := by kernel_rfl
set_option maxRecDepth 100000 in
theorem intCells : Tryz.prog.cellsOf 3 = 1 := by kernel_rfl
theorem cells4 {w : World} {base : Nat} {a : Addr} {cs : List Value} (h : w.cells? base a 4 = some cs) : ∃ c0 c1 c2 c3, cs = [c0, c1, c2, c3] ∧ w.cell? (a.add 0) = some c0 ∧ w.cell? (a.add 1) = some c1 ∧ w.cell? (a.add 2) = some c2 ∧ w.cell? (a.add 3) = some c3 := by
  obtain ⟨_, hl, hc⟩ := World.cells?_some h
  match cs, hl with
  | [c0, c1, c2, c3], _ => exact ⟨c0, c1, c2, c3, rfl, by simpa using hc 0 (by omega), by simpa using hc 1 (by omega), by simpa using hc 2 (by omega), by simpa using hc 3 (by omega)⟩
set_option maxRecDepth 100000 in
theorem open_steps {r : Reach} {b0 : Nat} {v : Value} {d : DataW H} {p : List MemPlace} (hv : Value.okWide Tryz.prog W r b0 22 v) (h : DataW.Trod enc Tryz.prog W 0 (fun _ => true) true 22 v d p) (hz : ∀ n ∈ d.weights Tryz.prog 22, n ≤ reachBytes) :
    ∃ (a0 : Option Addr) (cap : Nat) (ls : List Stp), v = .slice a0 ls.length cap ∧ ls.length ≤ cap ∧ ls.length ≤ 4398046511104 ∧ StpAt W a0 ls := by
  obtain ⟨a, len, cap, rfl⟩ := okWide_slice Tryz.underlying22 hv
  obtain ⟨fuel, hf⟩ := h
  rcases Go.Deep.open_slice Tryz.underlying22 (by simpa [Value.cells] using hf) with ⟨hcs, hx⟩ | ⟨ad, ln, cp, m, n, D, Pl, hcs, _, hl, _, hm, hx, hcell⟩
  · simp at hcs
    obtain ⟨rfl, rfl, rfl⟩ := hcs
    exact ⟨none, 0, [], rfl, Nat.le_refl _, Nat.zero_le _, fun i s hi => by simp at hi⟩
  · simp at hcs
    obtain ⟨rfl, rfl, rfl⟩ := hcs
    simp only [if_true] at hm
    have hm' := hm.symm
    subst hm'
    have hd := congrArg Prod.fst hx
    simp only at hd
    subst hd
    rw [stepCells] at hcell
    have hw : ∀ i, i < len → ∀ k ∈ (D i).weights Tryz.prog 32, k ≤ reachBytes := fun i hi k hk => by
      refine hz k ?_
      rw [DataW.weights, Tryz.underlying22]
      refine List.mem_cons.2 (.inr (List.mem_append.2 (.inl ?_)))
      exact weightsAll_mem (List.mem_map.2 ⟨i, List.mem_range.2 hi, rfl⟩) k hk
    have hlen : len * 48 ≤ 140737488355328 := by
      have := hz (len * 48 + (cap - len) * 48) (by
        rw [DataW.weights, Tryz.underlying22]
        refine List.mem_cons.2 (.inl ?_)
        rw [stepBytes, List.length_map, List.length_map, List.length_range, List.length_range, Nat.add_mul])
      have e : reachBytes = 140737488351232 := rfl
      omega
    have : Inhabited Stp := ⟨⟨0, 0, [], 0⟩⟩
    obtain ⟨Ls, hL⟩ := chosen (α := Stp) (m := len) (p := fun i s => ∃ (Av : Option Addr) (cv : Nat), W.cell? ((ad.add (i * 4)).add 0) = some (.int .i64 s.k) ∧ W.cell? ((ad.add (i * 4)).add 1) = some (.int .i64 s.rk) ∧ W.cell? ((ad.add (i * 4)).add 2) = some (.slice Av s.rd.length cv) ∧ W.cell? ((ad.add (i * 4)).add 3) = some (.int .i64 s.n) ∧ s.rd.length ≤ cv ∧ SlAt W Av (u8v s.rd) ∧ Bytes s.rd ∧ s.rd.length ≤ 140737488355328) (fun i hi => by
      obtain ⟨cs, hcs, ht⟩ := hcell i (by omega)
      obtain ⟨c0, c1, c2, c3, rfl, k0, k1, k2, k3⟩ := cells4 hcs
      obtain ⟨y0, y1, y2, m, hy, _, h0, h1, h2⟩ := Go.Deep.trod_struct3 Tryz.underlying32 ht
      have h0' : DataW.trod enc Tryz.prog W 0 (fun _ => true) true m 3 [c0] = some y0 := by simpa [intCells] using h0
      have h1' : DataW.trod enc Tryz.prog W 0 (fun _ => true) true m 30 [c1, c2] = some y1 := by simpa [recCells] using h1
      have h2' : DataW.trod enc Tryz.prog W 0 (fun _ => true) true m 3 [c3] = some y2 := by simpa [intCells] using h2
      obtain ⟨s0, e0, _, _⟩ := DataW.trod_int Tryz.underlying3 h0'
      obtain ⟨s2, e2, _, _⟩ := DataW.trod_int Tryz.underlying3 h2'
      obtain ⟨z0, z1, m1, hz1, q0, q1⟩ := open_list2 Tryz.underlying30 (by kernel_rfl) h1'
      obtain ⟨s1, e1, _, _⟩ := DataW.trod_int Tryz.underlying3 q0
      have hD : D i = .agg [y0.1, y1.1, y2.1] := congrArg Prod.fst hy
      have hD1 : y1.1 = .agg [z0.1, z1.1] := congrArg Prod.fst hz1
      obtain ⟨a0, c, l, rfl, h4, h5, h6, h7⟩ := open_u8 q1 (fun n hn => hw i hi n (by
        rw [hD, DataW.weights, Tryz.underlying32]
        refine DataW.weights_mem_each (j := 1) rfl rfl n ?_
        rw [hD1, DataW.weights, Tryz.underlying30]
        exact DataW.weights_mem_each (j := 1) rfl rfl n hn))
      simp at e0 e1 e2
      subst e0 e1 e2
      exact ⟨⟨s0, s1, l, s2⟩, a0, c, k0, k1, k2, k3, h4, h7, h6, h5⟩)
    refine ⟨some ad, cap, (List.range len).map Ls, by rw [List.length_map, List.length_range], by rw [List.length_map, List.length_range]; exact hl, by rw [List.length_map, List.length_range]; omega, fun i l hi => ?_⟩
    rw [List.getElem?_map, Option.map_eq_some_iff] at hi
    obtain ⟨j, hj, rfl⟩ := hi
    obtain ⟨hj1, hj2⟩ := List.getElem?_eq_some_iff.1 hj
    rw [List.length_range] at hj1
    rw [List.getElem_range] at hj2
    subst hj2
    obtain ⟨Av, cv, k0, k1, k2, k3, h4, h5, h6, h7⟩ := hL i hj1
    have ea : ∀ n, (ad.add (i * 4)).add (n + 1) = ⟨(ad.add (i * 4)).block, (ad.add (i * 4)).off + (n + 1), none⟩ := fun n => add_plain' _ (by omega)
    rw [add_nought] at k0
    rw [show (1 : Nat) = 0 + 1 from rfl, ea] at k1
    rw [show (2 : Nat) = 1 + 1 from rfl, ea] at k2
    rw [show (3 : Nat) = 2 + 1 from rfl, ea] at k3
    exact ⟨ad, Av, cv, rfl, by have := World.block_lt_of_cell? _ _ k0; rwa [add_block] at this, k0, k1, k2, k3, h4, h5, h6, h7⟩
end
end Go.Proofs.YtpmjlaiafgbjgaaGreatDoor.Base
end

section
namespace Go.Proofs.YtpmjlaiafgbjgaaGreatDoor.journalDoes
open Go.ChangeShapes Go.WideShapes Go.ChangeAt Go.RowKit
set_option maxRecDepth 100000 in
theorem contract (H : Type) (enc : TypeId × Value → H) (W : World) (base : Nat) (args : Array Value) (ds gs : List (DataW H)) (before : List MemPlace)
    (hval : ∀ (j : Nat) t v, Tryz.f3.params[j]? = some t → args[j]? = some v → Value.okWide Tryz.prog W .any base t v)
    (hW : DataW.Whole enc Tryz.prog Tryz.f3.params.toList Rows.journalDoesSpec.vars false W args.toList ds gs before)
    (hsz : (DataW.weightsEach Tryz.prog (Tryz.f3.params.toList ++ (OpenSpec.ofChange Rows.journalDoesSpec).bare.plain.varTypes Tryz.prog) (ds ++ gs)).all (· ≤ reachBytes) = true) (hL : laidMetH Tryz.prog Rows.journalDoesRow.laid W) :
    Calls Tryz.prog 3 args W fun e W' => ∃ v, e = .returned v ∧ Rows.journalDoesSpec.post enc Tryz.prog Tryz.f3 false true false false W args v W' := by
  have hW' := hW
  obtain ⟨p, q, hA0, hV, rfl, hfz, hnd⟩ := hW
  have hA : DataW.TrodAll enc Tryz.prog W 0 (fun _ => true) true Tryz.f3.params.toList args.toList ds p := hA0
  rw [Tryz.params3] at hA hval hsz
  obtain ⟨v0, vs0, d0, ds0, p0, q0, hargs, rfl, rfl, h0, r0⟩ := trodAll_cons hA
  obtain ⟨v1, vs1, d1, ds1, p1, q1, rfl, rfl, rfl, h1, r1⟩ := trodAll_cons r0
  obtain ⟨rfl, rfl, rfl⟩ := trodAll_nil r1
  obtain rfl : args = #[v0, v1] := by cases args; simp_all
  obtain ⟨rfl, rfl⟩ := trodVars_none hV
  obtain ⟨A0, c0, l0, rfl, hc0, hn0, hm0⟩ := Base.open_steps (hval 0 22 v0 rfl rfl) h0 (Base.wt_of hsz (j := 0) rfl rfl)
  obtain ⟨n1, rfl, rfl, rfl, w1⟩ := open_int Tryz.underlying3 (hval 1 3 v1 rfl rfl) h1
  clear hA0
  simp only [List.append_nil] at hW'
  have hlt : ∀ x, x ∈ p0 → x.block < W.heap.size := fun x hx => hW'.lt x (by simpa using hx)
  refine (jdoes_walk A0 c0 l0 hn0 n1 W (Base.fmS hL) hm0).mono fun e W' ⟨he, bel⟩ => ?_
  subst he
  exact ⟨_, rfl, _, _, _, [], _, [], hW', trodAll_mk1 (shut_bool Tryz.underlying4 _), (trodAll_cons_mk (Below.trod Base.laidOut (by kernel_rfl) (of_decide_eq_true (by kernel_rfl)) h0 bel (fun x hx => hlt x hx)) (trodAll_cons_mk (shut_int Tryz.underlying3 w1) trodAll_mk0)), rfl, Below.frame bel _, fun h => by cases h⟩
theorem laid_met (os : Os) : laidMet Tryz.prog Rows.journalDoesRow.laid ((Base.laidWorld os).forCall (fun _ _ => 0) ⟨#[], #[Value.slice none 0 0, Value.int .i64 0], []⟩).memory :=
  laidMet_of_run' 8 (by kernel_rfl) (by kernel_rfl)
theorem reads (os : Os) {H : Type} (enc : TypeId × Value → H) : ∃ places, DataW.whole enc Tryz.prog ((Base.laidWorld os).forCall (fun _ _ => 0) ⟨#[], #[Value.slice none 0 0, Value.int .i64 0], []⟩).memory Tryz.f3.params.toList Rows.journalDoesSpec.vars false (#[Value.slice none 0 0, Value.int .i64 0] : Array Value).toList 8 = some ([.nil, .lit (.int .i64 0)], [], places) :=
  ⟨[], by kernel_rfl⟩
set_option maxRecDepth 100000 in
theorem lifted (os : Os) (started : os.Started) (H : Type) (enc : TypeId × Value → H) (F : Stop.Interp) :
    ReturnsInHanded {} Tryz.checked os 3 .any ((OpenSpec.ofChange Rows.journalDoesSpec).preRow enc Tryz.prog Tryz.f3 Rows.journalDoesRow.domain false Rows.journalDoesRow.laid) (((OpenSpec.ofChange Rows.journalDoesSpec).at F).post enc Tryz.prog Tryz.f3 false true false false) := by
  obtain ⟨places, hx⟩ := reads os enc
  refine returnsInHanded_of_row (C := Tryz.checked) (s := OpenSpec.ofChange Rows.journalDoesSpec) Base.own started (by kernel_rfl) Tryz.func3
    (witness_row_at (enc := enc) (C := Tryz.checked) false (Base.laidWorld os) #[Value.slice none 0 0, Value.int .i64 0] rfl (by kernel_rfl) (by kernel_rfl) (by kernel_rfl)
      (OpenSpec.preRow_of_cond 8 hx (by kernel_rfl) (fun k hk => by cases hk) (by kernel_rfl) (laid_met os))) ?_
  intro W base args ds gs before hval hW _ _ hsz hL _ _
  exact contract H enc W base args ds gs before hval hW hsz hL
theorem said : Rows.JournalDoesSaid :=
  OpenClaim.holds_of_cond 3 Tryz.f3 rfl rfl rfl rfl rfl rfl rfl ⟨rfl, rfl, rfl, rfl, rfl⟩ rfl rfl rfl rfl rfl (by kernel_rfl) Tryz.func3 (by kernel_rfl)
    (of_decide_eq_true (by kernel_rfl)) (by unfold Func.isWrapper; first | (rw [if_pos (by decide +kernel)]; kernel_rfl) | (rw [if_neg (by decide +kernel)]; exact ⟨rfl, rfl⟩))
    (fun os started H enc _ F => by rw [OpenClaim.pre_eq_preRow]; exact lifted os started H enc F)
theorem plain (f : FuncId) (fn : Func) (hf : Tryz.pinned.checked.prog.funcNamed "binnacle/binnaclelaw22.JournalDoes" = some f) (hfn : Tryz.pinned.checked.prog.funcs[f]? = some fn) :
    false = Tryz.pinned.checked.prog.looks [] ∧ ∀ (j : Nat) t, fn.params[j]? = some t → Tryz.pinned.checked.prog.wantsStandIn t = false := by
  obtain rfl : f = 3 := Option.some.inj ((show Tryz.prog.funcNamed "binnacle/binnaclelaw22.JournalDoes" = some 3 by kernel_rfl).symm.trans hf) |>.symm
  obtain rfl : fn = Tryz.f3 := (Option.some.inj (Tryz.func3.symm.trans hfn)).symm
  refine ⟨by kernel_rfl, fun j t ht => ?_⟩
  rw [Tryz.params3] at ht
  have hm := Array.mem_of_getElem? ht
  have hm' : t = 22 ∨ t = 3 := by simpa using hm
  rcases hm' with rfl | rfl
  · exact (show Tryz.prog.wantsStandIn 22 = false by kernel_rfl)
  · exact (show Tryz.prog.wantsStandIn 3 = false by kernel_rfl)
theorem card : Rows.JournalDoesCardSaid :=
  Claim7.holds_tied_plain_at .later [] _ _ _ _ said (fun _ h => by cases h) (by kernel_rfl) (fun _ h => by cases h) journalDoes_row_tie rfl ⟨rfl, rfl⟩ (by kernel_rfl) rfl plain (by kernel_rfl)
#print axioms card
end Go.Proofs.YtpmjlaiafgbjgaaGreatDoor.journalDoes
end
