/- The card of JournalReads: whatever the input, the call returns true and the input reads as it did; the format holds what the program's text lays. -/
import Derived.Test.YtpmjlaiafgbjgaaDoorCards
import Derived.Test.YtpmjlaiafgbjgaaDoorTie
import Derived.WalkKit
import Derived.ProofKit
import Derived.OpenShut
import Derived.ShutString
import Derived.ChangeOld
import Derived.ChangeSlices
import Derived.Below
import Derived.Carry
import Derived.SizedLaws
import Derived.Deep.DeepHandedRow
import Derived.Deep.Strs
import Derived.Lib.LaidTab
import Derived.Lib.SmallJoins
import Derived.Test.YtpmjlaiafgbjgaaDoorK2
import Derived.Test.YtpmjlaiafgbjgaaDoorK3
import Derived.Test.YtpmjlaiafgbjgaaDoorK7
set_option linter.unusedVariables false
set_option linter.unusedSimpArgs false
section
namespace Go.Proofs.YtpmjlaiafgbjgaaDoor
open Go.RowKit

theorem logRead_back {b : List Nat} (hb : Bytes b) (hm : b.take 8 = magicV) : (∀ r ∈ (logRead b).1, r.Ok pf) ∧ (logRead b).1.length ≤ 1048576 ∧ logV (logRead b).1 = b.take (logRead b).2.2 ∧ (logRead b).2.2 ≤ b.length ∧ ((logRead b).2.1 = 0 ↔ (logRead b).2.2 = b.length) := by
  obtain ⟨h1, h2, h3, h4, _, _⟩ := readV_back (F := pf) _ (b.drop 8) 0 startV (Nat.le_refl _) (fun x hx => hb x (List.mem_of_mem_drop hx)) startV_lt
  have h5 := (read_ok hb).2
  have h8 : 8 ≤ b.length := by have := congrArg List.length hm; rw [List.length_take, show magicV.length = 8 from rfl] at this; omega
  rw [logRead_yes hm]
  rw [List.length_drop] at h3 h4
  refine ⟨h1, h5, ?_, by show 8 + _ ≤ _; omega, ?_⟩
  · show magicV ++ laidV _ 0 startV = b.take (8 + _)
    rw [h2, List.take_add, hm]
  · show _ = 0 ↔ 8 + _ = b.length
    rw [h4]; omega
/-- a copy of bytes in new memory -/
theorem copy_run (w : World) (A : Option Addr) (c : Nat) (b : List Nat) (hlen : b.length ≤ 140737488355328) (hr : SlAt w A (u8v b)) : ∃ A' c' w', (Builtin.append_ #[22, 22] 22 #[.slice (some ⟨w.heap.size, 0, none⟩) 0 0, .slice A b.length c]).run Tryd.prog (w.alloc (.cells #[] 5)) = .ok (.slice A' b.length c') w' ∧ b.length ≤ c' ∧ SlAt w' A' (u8v b) ∧ OwnB w' w.heap.size (.slice A' b.length c') b ∧ Within w w' := by
  have h0 := OwnB.lit w w.heap.size (Nat.le_refl _) [] (by simp)
  have hin : Within w (w.alloc (.cells #[] 5)) := (Within.refl w).alloc _
  obtain ⟨v', w', h1, h2, h3⟩ := run_app_u8 (w.alloc (.cells #[] 5)) w.heap.size (.slice (some ⟨w.heap.size, 0, none⟩) 0 0) [] b h0 A c (hr.of hin) (by simp; omega) hin.size
  rw [List.nil_append] at h2
  obtain ⟨A', c', rfl, hc, hs, _⟩ := h2.form
  exact ⟨A', c', w', h1, hc, hs, h2, Below.trans hin h3⟩

set_option maxRecDepth 100000 in
set_option maxHeartbeats 1000000 in
theorem jopens_walk (A : Option Addr) (c : Nat) (b : List Nat) (hb : Bytes b) (hlen : b.length ≤ 140737488355328) (hc : b.length ≤ c) (w : World) (hT : FmS w) (hr : SlAt w A (u8v b)) : Calls Tryd.prog 3 #[.slice A b.length c] w fun e w' => e = .returned (.bool true) ∧ Within w w' := by
  have AW := Lib.hid (jawake_true w hT)
  have HT := Lib.hid hT; have HR := Lib.hid hr; have HB := Lib.hid hb; clear hT hr hb
  go_enter Tryd.func3, Tryd.ntmps3
  go_wp2_with fail
  refine AW.out.mono ?_; rintro e1 w1 ⟨rfl, h1⟩
  clear AW
  obtain ⟨A2, c2, w2, hrun, hc2, hs2, _, h2⟩ := copy_run w1 A c b hlen (HR.out.of h1)
  have OP := Lib.hid (Open_any A2 c2 b HB.out hlen hc2 w2 (HT.out.of (h1.trans h2)) hs2)
  have RUN := Lib.hid hrun; have H2 := Lib.hid (h1.trans h2); clear hrun h1 h2 hs2 hc2
  obtain ⟨n, hn⟩ : ∃ n, b.length = n := ⟨_, rfl⟩
  rw [hn] at RUN OP hlen hc ⊢
  have HN := Lib.hid hn; clear hn
  go_wp2_with (at_builtin; refine wpList_append_run rfl (.tmp 8) (.tmp 9) 22 rfl _ _ rfl rfl RUN.out ?_)
  refine OP.out.mono ?_; rintro e3 w3 hP
  clear OP
  rcases hP with ⟨_, rfl, h3⟩ | ⟨hm, xb, rfl, hL3, h3⟩
  · go_wp2
    go_ret
    exact ⟨rfl, (H2.out.trans h3).alloc _⟩
  · obtain ⟨hok, hle, hlog, hal, hiff⟩ := logRead_back HB.out hm
    obtain ⟨⟨rs, y, a⟩, hlr⟩ : ∃ t, logRead b = t := ⟨_, rfl⟩
    rw [hlr] at hok hle hlog hal hiff hL3 ⊢
    have hok : ∀ r ∈ rs, r.Ok pf := hok
    have hle : rs.length ≤ 1048576 := hle
    have hlog : logV rs = b.take a := hlog
    have hal : a ≤ b.length := hal
    have hiff : y = 0 ↔ a = b.length := hiff
    rw [HN.out] at hal hiff
    obtain ⟨u, d1, d2⟩ : ∃ u, ((y : Int) == 0) = u ∧ ((a : Int) == (n : Int)) = u := ⟨_, rfl, by rw [Bool.eq_iff_iff, beq_iff_eq, beq_iff_eq]; omega⟩
    have v1 : (0 : Int) ≤ (a : Int) := by omega
    have v2 : (a : Int) ≤ (n : Int) := by omega
    have v3 : (a : Int) ≤ (c : Int) := by omega
    have v4 : decide ((a : Int) ≤ (n : Int)) = true := decide_eq_true v2
    have v5 : decide ((0 : Int) ≤ (a : Int)) = true := decide_eq_true v1
    have v6 : a ≤ c := by omega
    have BY := Lib.hid (fun W (h : Within w3 W) => Bytes_log _ xb rs (logV_le (fun q hq => (hok q hq).parts.2.2) hle) W (LogS.of hL3 h))
    obtain ⟨s, hs⟩ : ∃ s, strB (logV rs) = s := ⟨_, rfl⟩
    have hs' : strB (b.take a) = s := by rw [← hlog]; exact hs
    have ST1 : Hid (∀ W, SlAt W A (u8v b) → (convert 22 9 (.slice A a c)).run Tryd.prog W = .ok (.string s) W) := Lib.hid (fun W h => by
      have := run_str A c (b.take a) W (by have := h.take a; unfold u8v at this ⊢; rwa [← List.map_take] at this)
      rw [hs', List.length_take, HN.out, Nat.min_eq_left hal] at this; exact this)
    obtain ⟨m, hmm⟩ : ∃ m, (logV rs).length = m := ⟨_, rfl⟩
    have ST2 : Hid (∀ W A' c', SlAt W A' (u8v (logV rs)) → (convert 22 9 (.slice A' m c')).run Tryd.prog W = .ok (.string s) W) := Lib.hid (fun W A' c' h => by rw [← hmm, ← hs]; exact run_str A' c' (logV rs) W h)
    have es : (s.toList == s.toList) = true := by simp
    have HMM := Lib.hid hmm; have H3 := Lib.hid (H2.out.trans h3); have HOLD := Lib.hid (HR.out.of (H2.out.trans h3)); clear hm hok hle hlog hal hiff hlr hs hs' hmm h3 hL3
    obtain ⟨W3, hW3⟩ : ∃ W3, W3 = w3.alloc (.cells #[.int .i64 (y : Int), .int .i64 (a : Int)] 26) := ⟨_, rfl⟩
    have h33 : Within w3 W3 := by rw [hW3]; exact (Within.refl w3).alloc _
    have p0 : W3.cell? ⟨w3.heap.size, 0, none⟩ = some (.int .i64 (y : Int)) := by rw [hW3]; simp
    have p1 : W3.cell? ⟨w3.heap.size, 1, none⟩ = some (.int .i64 (a : Int)) := by rw [hW3]; simp
    have ps : w3.heap.size < W3.heap.size := by rw [hW3]; simp
    go_wp2_with fail
    rw [← hW3]
    clear hW3
    refine wp_region_schG (fun W => W.cell? ⟨w3.heap.size, 0, none⟩ = some (.int .i64 (y : Int)) ∧ W.cell? ⟨w3.heap.size, 1, none⟩ = some (.int .i64 (a : Int)) ∧ w3.heap.size < W.heap.size ∧ SlAt W A (u8v b) ∧ Within w3 W) 32 (.firm 0 (.firm 1 (.firm 2 (.firm 3 (.firm 4 (.firm 5 (.firm 6 (.firm 7 (.firm 8 (.firm 9 (.firm 10 (.firm 11 (.firm 14 (.firm 15 (.firm 16 (.firm 17 (.firm 18 (.one 12 (.one 13 (.firm 19 (.firm 20 (.firm 21 (.firm 22 (.firm 23 (.firm 24 (.firm 25 (.firm 26 (.firm 27 (.firm 28 (.firm 29 (.firm 30 (.firm 31 (.one 32 .nil))))))))))))))))))))))))))))))))) (by kernel_rfl) (by kernel_rfl) ⟨p0, p1, ps, HOLD.out.of h33, h33⟩ ?_
    rintro w0 ⟨p0, p1, ps, hsa, hw0⟩
    try simp only [Act.put, List.setIfInBounds_toArray, List.set_cons_zero, List.set_cons_succ]
    iterate 4
      apply sch_firm rfl rfl (by repeat (first | with_reducible exact Within.refl _ | with_reducible assumption | with_reducible refine Within.alloc ?_ _ | with_reducible refine Within.drew ?_ | with_reducible refine Within.drewN ?_ _ | with_reducible refine Within.setCell ?_ (by first | (simp; done) | (simp; omega)) _ | with_reducible refine Within.trans ?_ (by assumption)))
      · intro wq hq
        have hcq := hq.cells
        have st1 := ST1.out wq (hsa.of hq)
        clear hq
        go_simp
        rfl
      try simp only [Act.put, List.setIfInBounds_toArray, List.set_cons_zero, List.set_cons_succ]
    iterate 5
      apply sch_want rfl (by first | rfl | decide | (simp [Region.wanted, yielded]; done)) (by repeat (first | with_reducible exact Within.refl _ | with_reducible assumption | with_reducible refine Within.alloc ?_ _ | with_reducible refine Within.drew ?_ | with_reducible refine Within.drewN ?_ _ | with_reducible refine Within.setCell ?_ (by first | (simp; done) | (simp; omega)) _ | with_reducible refine Within.trans ?_ (by assumption)))
      · intro wq hq
        have hcq := hq.cells
        have st1 := ST1.out wq (hsa.of hq)
        clear hq
        go_simp
        rfl
      try simp only [Act.put, List.setIfInBounds_toArray, List.set_cons_zero, List.set_cons_succ]
    iterate 2
      apply sch_firm rfl rfl (by repeat (first | with_reducible exact Within.refl _ | with_reducible assumption | with_reducible refine Within.alloc ?_ _ | with_reducible refine Within.drew ?_ | with_reducible refine Within.drewN ?_ _ | with_reducible refine Within.setCell ?_ (by first | (simp; done) | (simp; omega)) _ | with_reducible refine Within.trans ?_ (by assumption)))
      · intro wq hq
        have hcq := hq.cells
        have st1 := ST1.out wq (hsa.of hq)
        clear hq
        go_simp
        rfl
      try simp only [Act.put, List.setIfInBounds_toArray, List.set_cons_zero, List.set_cons_succ]
    iterate 6
      apply sch_want rfl (by first | rfl | decide | (simp [Region.wanted, yielded]; done)) (by repeat (first | with_reducible exact Within.refl _ | with_reducible assumption | with_reducible refine Within.alloc ?_ _ | with_reducible refine Within.drew ?_ | with_reducible refine Within.drewN ?_ _ | with_reducible refine Within.setCell ?_ (by first | (simp; done) | (simp; omega)) _ | with_reducible refine Within.trans ?_ (by assumption)))
      · intro wq hq
        have hcq := hq.cells
        have st1 := ST1.out wq (hsa.of hq)
        clear hq
        go_simp
        rfl
      try simp only [Act.put, List.setIfInBounds_toArray, List.set_cons_zero, List.set_cons_succ]
    refine sch_one_want rfl (by first | rfl | decide | (simp [Region.wanted, yielded]; done)) (fun K hK => ?_)
    go_simp
    refine (BY.out _ (by exact hw0.drew)).mono ?_; rintro e7 w7 ⟨v7, rfl, hO7, h7⟩
    obtain ⟨A7, c7, rfl, _, hs7, _⟩ := hO7.form
    rw [HMM.out]
    have st2 := ST2.out w7 A7 c7 hs7
    clear hO7 hs7
    refine hK _ _ (fun _ => (by repeat (first | with_reducible exact Within.refl _ | with_reducible assumption | with_reducible refine Within.alloc ?_ _ | with_reducible refine Within.drew ?_ | with_reducible refine Within.drewN ?_ _ | with_reducible refine Within.setCell ?_ (by first | (simp; done) | (simp; omega)) _ | with_reducible refine Within.trans ?_ (by assumption)))) ?_
    clear hK K
    try simp only [Act.put, List.setIfInBounds_toArray, List.set_cons_zero, List.set_cons_succ]
    refine sch_one_want rfl (by first | rfl | decide | (simp [Region.wanted, yielded]; done)) (fun K hK => ?_)
    go_simp
    refine hK _ _ (fun _ => (by repeat (first | with_reducible exact Within.refl _ | with_reducible assumption | with_reducible refine Within.alloc ?_ _ | with_reducible refine Within.drew ?_ | with_reducible refine Within.drewN ?_ _ | with_reducible refine Within.setCell ?_ (by first | (simp; done) | (simp; omega)) _ | with_reducible refine Within.trans ?_ (by assumption)))) ?_
    clear hK K
    try simp only [Act.put, List.setIfInBounds_toArray, List.set_cons_zero, List.set_cons_succ]
    apply sch_want rfl (by first | rfl | decide | (simp [Region.wanted, yielded]; done)) (by repeat (first | with_reducible exact Within.refl _ | with_reducible assumption | with_reducible refine Within.alloc ?_ _ | with_reducible refine Within.drew ?_ | with_reducible refine Within.drewN ?_ _ | with_reducible refine Within.setCell ?_ (by first | (simp; done) | (simp; omega)) _ | with_reducible refine Within.trans ?_ (by assumption)))
    · intro wq hq
      have hcq := hq.cells
      have st1 := ST1.out wq (hsa.of hq)
      clear hq
      go_simp
      rfl
    try simp only [Act.put, List.setIfInBounds_toArray, List.set_cons_zero, List.set_cons_succ]
    iterate 2
      apply sch_firm rfl rfl (by repeat (first | with_reducible exact Within.refl _ | with_reducible assumption | with_reducible refine Within.alloc ?_ _ | with_reducible refine Within.drew ?_ | with_reducible refine Within.drewN ?_ _ | with_reducible refine Within.setCell ?_ (by first | (simp; done) | (simp; omega)) _ | with_reducible refine Within.trans ?_ (by assumption)))
      · intro wq hq
        have hcq := hq.cells
        have st1 := ST1.out wq (hsa.of hq)
        clear hq
        go_simp
        rfl
      try simp only [Act.put, List.setIfInBounds_toArray, List.set_cons_zero, List.set_cons_succ]
    iterate 9
      apply sch_want rfl (by first | rfl | decide | (simp [Region.wanted, yielded]; done)) (by repeat (first | with_reducible exact Within.refl _ | with_reducible assumption | with_reducible refine Within.alloc ?_ _ | with_reducible refine Within.drew ?_ | with_reducible refine Within.drewN ?_ _ | with_reducible refine Within.setCell ?_ (by first | (simp; done) | (simp; omega)) _ | with_reducible refine Within.trans ?_ (by assumption)))
      · intro wq hq
        have hcq := hq.cells
        have st1 := ST1.out wq (hsa.of hq)
        clear hq
        go_simp
        rfl
      try simp only [Act.put, List.setIfInBounds_toArray, List.set_cons_zero, List.set_cons_succ]
    apply sch_firm rfl rfl (by repeat (first | with_reducible exact Within.refl _ | with_reducible assumption | with_reducible refine Within.alloc ?_ _ | with_reducible refine Within.drew ?_ | with_reducible refine Within.drewN ?_ _ | with_reducible refine Within.setCell ?_ (by first | (simp; done) | (simp; omega)) _ | with_reducible refine Within.trans ?_ (by assumption)))
    · intro wq hq
      have hcq := hq.cells
      have st1 := ST1.out wq (hsa.of hq)
      clear hq
      go_simp
      rfl
    try simp only [Act.put, List.setIfInBounds_toArray, List.set_cons_zero, List.set_cons_succ]
    refine sch_one rfl rfl (fun K hK => ?_)
    go_simp
    refine hK _ _ (fun h => absurd h (by decide)) ?_
    clear hK K
    try simp only [Act.put, List.setIfInBounds_toArray, List.set_cons_zero, List.set_cons_succ]
    refine sch_nil ?_
    go_wp2
    go_ret
    exact ⟨rfl, by exact H3.out.trans (hw0.trans (by repeat (first | with_reducible exact Within.refl _ | with_reducible assumption | with_reducible refine Within.alloc ?_ _ | with_reducible refine Within.drew ?_ | with_reducible refine Within.drewN ?_ _ | with_reducible refine Within.setCell ?_ (by first | (simp; done) | (simp; omega)) _ | with_reducible refine Within.trans ?_ (by assumption))))⟩

end Go.Proofs.YtpmjlaiafgbjgaaDoor
end

section
namespace Go.Proofs.YtpmjlaiafgbjgaaDoor

section
variable {P : Program} {ops : Array Oper} {Q : Exit → Act → World → Prop} {md : Region.Mode} {S : World → Prop}
variable {p k : Nat} {a : Act} {w : World}
theorem wpAnyG_mono {S S2 : World → Prop} (h : ∀ w, S2 w → S w) {p : Nat} : ∀ (fuel : Nat) (listed : Array Bool) (a : Act) (w : World), wpAnyG P md ops Q S2 p fuel listed a w → wpAnyG P md ops Q S p fuel listed a w
  | 0, _, _, _, h' => h'
  | fuel + 1, _, _, _, h' => ⟨h'.1, fun i hi => wpOp_mono (fun _ _ h'' => ⟨fun hp => h _ (h''.1 hp), wpAnyG_mono h fuel _ _ _ h''.2⟩) (h'.2 i hi)⟩
/-- a schedule whose first operations stand in one order; at a turn other worlds are spoken of from there on -/
inductive Shf where
  | sch (t : Sch) : Shf
  | firm (k : Nat) (r : Shf) : Shf
  | one (k : Nat) (r : Shf) : Shf
  | turn (r : Shf) : Shf
def Shf.long : Shf → Nat → Bool
  | .sch t, n => t.long n
  | .firm _ r, n => decide (0 < n) && r.long (n - 1)
  | .one _ r, n => decide (0 < n) && r.long (n - 1)
  | .turn r, n => r.long n
def Shf.ok (md : Region.Mode) (ops : Array Oper) (p : Nat) : Shf → Array Bool → Bool
  | .sch t, listed => t.ok md ops p listed
  | .firm k r, listed => (Region.ready md ops listed).contains k && Region.free md ops listed k && decide (k < p) && r.ok md ops p (listed.setIfInBounds k true)
  | .one k r, listed => decide (Region.ready md ops listed = [k]) && decide (k < p) && r.ok md ops p (listed.setIfInBounds k true)
  | .turn r, listed => r.ok md ops p listed
def wpShf (P : Program) (ops : Array Oper) (Q : Exit → Act → World → Prop) (p : Nat) : Shf → (World → Prop) → Act → World → Prop
  | .sch t, S, a, w => wpSch P ops Q S p t a w
  | .firm k r, S, a, w => S w ∧ ∃ o v, ops[k]? = some o ∧ YieldsIf P ops S o v a ∧ wpShf P ops Q p r S (a.put o.dst v) w
  | .one k r, S, a, w => wpOp P ops Q k (fun a' w' => S w' ∧ wpShf P ops Q p r S a' w') a w
  | .turn r, S, a, w => ∃ S2 : World → Prop, (∀ w, S2 w → S w) ∧ wpShf P ops Q p r S2 a w
theorem wpAnyG_shf {p : Nat} (hsel : Region.noSelect ops = true) (hQ : ∀ c a d v w, Q (.panic c) (a.put d v) w → Q (.panic c) a w) (hs : Region.sinkB md ops p = true) (hc : Region.chainB md ops p = true) (hn : p < ops.size) :
    ∀ (t : Shf) (S : World → Prop) (n : Nat) (listed : Array Bool) (a : Act) (w : World), t.long n = true → HeadInv md ops p listed → t.ok md ops p listed = true → wpShf P ops Q p t S a w → wpAnyG P md ops Q S p n listed a w := by
  intro t
  induction t with
  | sch t =>
    intro S n listed a w hl inv hB h
    exact wpAnyG_sch hsel hQ hs hc hn t n listed a w hl (.inl inv) hB h
  | firm k r ih =>
    intro S n listed a w hl inv hB h
    simp only [Shf.long, Bool.and_eq_true, decide_eq_true_eq] at hl
    obtain ⟨m, rfl⟩ : ∃ m, n = m + 1 := ⟨n - 1, by omega⟩
    simp only [Shf.ok, Bool.and_eq_true, decide_eq_true_eq] at hB
    obtain ⟨⟨⟨hr, hf⟩, hkp⟩, hB'⟩ := hB
    obtain ⟨hS, o, v, ho, hy, hK⟩ := h
    have hr' : k ∈ Region.ready md ops listed := by simpa using hr
    exact wpAnyG_first ho (Region.noSelect_spec hsel) (fun c a w => hQ c a _ _ w) hs hc hn hkp m listed a w inv (Region.free_spec ho hf) hr' hy hS
      (ih S m _ _ _ hl.2 (inv.set hr' hkp) hB' hK)
  | one k r ih =>
    intro S n listed a w hl inv hB h
    simp only [Shf.long, Bool.and_eq_true, decide_eq_true_eq] at hl
    obtain ⟨m, rfl⟩ : ∃ m, n = m + 1 := ⟨n - 1, by omega⟩
    simp only [Shf.ok, Bool.and_eq_true, decide_eq_true_eq] at hB
    obtain ⟨⟨hr, hd⟩, hB'⟩ := hB
    refine ⟨fun h0 => (by rw [hr] at h0; cases h0), fun i hi => ?_⟩
    have hi' : k ∈ Region.ready md ops listed := by rw [hr]; exact List.mem_singleton.2 rfl
    rw [hr] at hi
    have hik : i = k := by simpa using hi
    subst hik
    exact wpOp_mono (fun a' w' h' => ⟨fun _ => h'.1, ih S m _ _ _ hl.2 (inv.set hi' hd) hB' h'.2⟩) h
  | turn r ih =>
    intro S n listed a w hl inv hB h
    obtain ⟨S2, h2, h3⟩ := h
    exact wpAnyG_mono h2 n listed a w (ih S2 n listed a w hl inv hB h3)
def Shf.okAll (ops : Array Oper) (p : Nat) (t : Shf) : Bool :=
  Region.noSelect ops && decide (p < ops.size) && Region.sinkB .any ops p && Region.chainB .any ops p && t.long ops.size && t.ok .any ops p (Array.replicate ops.size false)
theorem wp_region_shf {id : Nat} {a : Act} {w : World} (S : World → Prop) (F : World → Prop) (p : Nat) (t : Shf) (hm : P.follows .mixedOrders = true) (hB : t.okAll ops p = true) (hF : F w)
    (h : ∀ w0, F w0 → wpShf P ops (OnlyN Q) p t S a w0.drew) : (Code.region id ops true).wp P Q a w := by
  simp only [Shf.okAll, Bool.and_eq_true, decide_eq_true_eq] at hB
  obtain ⟨⟨⟨⟨⟨hsel, hn⟩, hs⟩, hc⟩, hlen⟩, hsc⟩ := hB
  have inv0 : HeadInv .any ops p (Array.replicate ops.size false) :=
    ⟨by simp, fun j oj _ hl => (by rw [getD_replicate_false] at hl; cases hl), fun t _ ht => Go.getD_in (by simpa using ht) (getD_replicate_false _ _)⟩
  exact Code.wp_mono OnlyN.imp (wp_region_any hm (wpAny_of_G _ _ _ _ (wpAnyG_shf (md := .any) hsel (Q := OnlyN Q) (fun c a d v w h => h) hs hc hn t S _ _ a w.drew hlen inv0 hsc (h w hF))))
variable {t : Shf}
theorem shf_firm {o : Oper} {v : Value} (ho : ops.toList[k]? = some o) (hg : o.guard = none) (hS : S w) (h1 : ∀ w, S w → firmAt P o a w v) (h2 : wpShf P ops (OnlyN Q) p t S (a.put o.dst v) w) : wpShf P ops (OnlyN Q) p (.firm k t) S a w :=
  ⟨hS, o, v, (Array.getElem?_toList ▸ ho), .inl ⟨by simp [Region.wanted, hg], fun w hw => (h1 w hw).run⟩, h2⟩
theorem shf_one {o : Oper} (ho : ops.toList[k]? = some o) (hg : o.guard = none) (h : ∀ K : Act → World → Prop, (∀ a' w', S w' → wpShf P ops (OnlyN Q) p t S a' w' → K a' w') → o.wp P a w K (OnlyN Q)) : wpShf P ops (OnlyN Q) p (.one k t) S a w :=
  sch_op ho hg fun K hK => h K fun a' w' hS hr => hK a' w' ⟨hS, hr⟩
theorem shf_want {o : Oper} {v : Value} (ho : ops.toList[k]? = some o) (hg : Region.wanted o (yielded ops a.tmps) = true) (hS : S w) (h1 : ∀ w, S w → firmAt P o a w v) (h2 : wpShf P ops (OnlyN Q) p t S (a.put o.dst v) w) : wpShf P ops (OnlyN Q) p (.firm k t) S a w :=
  ⟨hS, o, v, (Array.getElem?_toList ▸ ho), .inl ⟨hg, fun w hw => (h1 w hw).run⟩, h2⟩
theorem shf_one_want {o : Oper} (ho : ops.toList[k]? = some o) (hg : Region.wanted o (yielded ops a.tmps) = true) (h : ∀ K : Act → World → Prop, (∀ a' w', S w' → wpShf P ops (OnlyN Q) p t S a' w' → K a' w') → o.wp P a w K (OnlyN Q)) : wpShf P ops (OnlyN Q) p (.one k t) S a w := by
  show wpOp P ops (OnlyN Q) k _ a w
  unfold wpOp
  rw [Array.getElem?_toList] at ho
  simp only [ho]
  rw [if_pos hg]
  exact .inl (h _ fun a' w' hS hr => ⟨hS, hr⟩)
theorem shf_sch {u : Sch} (h : wpSch P ops (OnlyN Q) S p u a w) : wpShf P ops (OnlyN Q) p (.sch u) S a w := h
theorem shf_turn (S2 : World → Prop) (h : ∀ w, S2 w → S w) (h2 : wpShf P ops (OnlyN Q) p t S2 a w) : wpShf P ops (OnlyN Q) p (.turn t) S a w := ⟨S2, h, h2⟩
end
end Go.Proofs.YtpmjlaiafgbjgaaDoor
end

section
namespace Go.Proofs.YtpmjlaiafgbjgaaDoor
open Go.RowKit

/-- what both opens tell -/
def OpenedP (L : World → (Nat → Prop) → Nat → List Rec → Prop) (b : List Nat) (w : World) (e : Ending) (w' : World) : Prop := ∃ q : Option Addr, e = .returned (.tuple #[.pointer q, .agg #[.int .i64 ((logRead b).2.1 : Int), .int .i64 ((logRead b).2.2 : Int)]]) ∧ Within w w' ∧ ((b.take 8 ≠ magicV ∧ q = none) ∨ (b.take 8 = magicV ∧ ∃ xb, q = some ⟨xb, 0, none⟩ ∧ L w' (fun j => w.heap.size ≤ j ∧ j < w'.heap.size) xb (logRead b).1))
theorem Open_one (A : Option Addr) (c : Nat) (b : List Nat) (hb : Bytes b) (hlen : b.length ≤ 140737488355328) (hc : b.length ≤ c) (w : World) (hT : FmS w) (hr : SlAt w A (u8v b)) : Calls Tryd.prog 12 #[.slice A b.length c] w (OpenedP LogS b w) :=
  (Open_any A c b hb hlen hc w hT hr).mono fun e w' h => by
    rcases h with ⟨hno, rfl, hi⟩ | ⟨hm, xb, rfl, hL, hi⟩
    · exact ⟨none, by rw [logRead_no hno]; rfl, hi, .inl ⟨hno, rfl⟩⟩
    · exact ⟨_, rfl, hi, .inr ⟨hm, xb, rfl, hL⟩⟩
theorem Ropen_one (A : Option Addr) (c : Nat) (b : List Nat) (hb : Bytes b) (hlen : b.length ≤ 140737488355328) (hc : b.length ≤ c) (w : World) (hr : SlAt w A (u8v b)) : Calls Tryd.prog 18 #[.slice A b.length c] w (OpenedP RlogS b w) :=
  (Ropen_any A c b hb hlen hc w hr).mono fun e w' h => by
    rcases h with ⟨hno, rfl, hi⟩ | ⟨hm, xb, rfl, hL, hi⟩
    · exact ⟨none, by rw [logRead_no hno]; rfl, hi, .inl ⟨hno, rfl⟩⟩
    · exact ⟨_, rfl, hi, .inr ⟨hm, xb, rfl, hL⟩⟩

set_option maxRecDepth 100000 in
set_option maxHeartbeats 1000000 in
theorem jreads_walk (A : Option Addr) (c : Nat) (b : List Nat) (hb : Bytes b) (hlen : b.length ≤ 140737488355328) (hc : b.length ≤ c) (w : World) (hT : FmS w) (hr : SlAt w A (u8v b)) : Calls Tryd.prog 4 #[.slice A b.length c] w fun e w' => e = .returned (.bool true) ∧ Within w w' := by
  have HT := Lib.hid hT; have HR := Lib.hid hr; have HB := Lib.hid hb; clear hT hr hb
  obtain ⟨A1, c1, w1, hrun1, hc1, hs1, _, h1⟩ := copy_run w A c b hlen HR.out
  have RD := Lib.hid (Read_any A1 c1 b HB.out hlen hc1 w1 (HT.out.of h1) hs1)
  have RR := Lib.hid (fun W (h : Within w W) => Rread_any A c b HB.out hlen hc W (HR.out.of h))
  have OPN := Lib.hid (fun W A' c' (h : Within w W) (hc' : b.length ≤ c') (hs : SlAt W A' (u8v b)) => Open_one A' c' b HB.out hlen hc' W (HT.out.of h) hs)
  have ROP := Lib.hid (fun W (h : Within w W) => Ropen_one A c b HB.out hlen hc W (HR.out.of h))
  have CPY := Lib.hid (fun W (h : Within w W) => copy_run W A c b hlen (HR.out.of h))
  have AW := Lib.hid (fun W (h : Within w W) => jawake_true W (HT.out.of h))
  have BACK := Lib.hid (fun hm => logRead_back HB.out hm)
  obtain ⟨⟨rs, y, a⟩, hlr⟩ : ∃ t, logRead b = t := ⟨_, rfl⟩
  unfold OpenedP at OPN ROP
  rw [hlr] at RD RR OPN ROP BACK
  have HLR := Lib.hid hlr
  have RUN := Lib.hid hrun1; clear hrun1 hs1 hc1 hlr
  obtain ⟨n, hn⟩ : ∃ n, b.length = n := ⟨_, rfl⟩
  rw [hn] at RUN RD RR OPN ROP CPY hlen hc ⊢
  have HN := Lib.hid hn; clear hn
  go_enter Tryd.func4, Tryd.ntmps4
  go_wp2_with (at_builtin; refine wpList_append_run rfl (.tmp 10) (.tmp 11) 22 rfl _ _ rfl rfl RUN.out ?_)
  refine RD.out.mono ?_; rintro e2 w2 ⟨lv, rfl, hL2, h2⟩
  clear RD
  obtain ⟨A2, c2, rfl, _, hB2, _, _⟩ := hL2.at
  rw [List.length_map]
  obtain ⟨W2, hW2⟩ : ∃ W, W = w2.alloc (.cells #[.int .i64 (y : Int), .int .i64 (a : Int)] 26) := ⟨_, rfl⟩
  have iW2 : Within w2 W2 := by rw [hW2]; exact (Within.refl _).alloc _
  have p0 : W2.cell? ⟨w2.heap.size, 0, none⟩ = some (.int .i64 (y : Int)) := by rw [hW2]; simp
  have p1 : W2.cell? ⟨w2.heap.size, 1, none⟩ = some (.int .i64 (a : Int)) := by rw [hW2]; simp
  have ps : w2.heap.size < W2.heap.size := by rw [hW2]; simp
  have pfr : ∀ o, W2.frozen? ⟨w2.heap.size, o, none⟩ = false := by intro o; rw [hW2]; simp
  have hw2 : Within w W2 := h1.trans (h2.trans iW2)
  have HP : Hid (w.heap.size ≤ w2.heap.size) := Lib.hid (h1.trans h2).size
  have HB2 := Lib.hid (hB2.of iW2)
  have HW2 := Lib.hid hw2; have E2 := Lib.hid hW2; clear h1 h2 hL2 hB2 hw2 hW2 iW2
  go_wp2_with fail
  rw [← E2.out]
  refine (RR.out W2 HW2.out).mono ?_; rintro e3 w3 ⟨lv3, rfl, hL3, h3⟩
  clear RR
  obtain ⟨A3, c3, rfl, _, hB3, _, _⟩ := hL3.at
  rw [List.length_map]
  have p0 := (h3.cells _ _ ps).trans p0
  have p1 := (h3.cells _ _ ps).trans p1
  have pfr := fun o => (h3.frozens _ o ps).trans (pfr o)
  have ps := Nat.lt_of_lt_of_le ps h3.size
  obtain ⟨W3, hW3⟩ : ∃ W, W = w3.alloc (.cells #[.int .i64 (y : Int), .int .i64 (a : Int)] 26) := ⟨_, rfl⟩
  have iW3 : Within w3 W3 := by rw [hW3]; exact (Within.refl _).alloc _
  have q0 : W3.cell? ⟨w3.heap.size, 0, none⟩ = some (.int .i64 (y : Int)) := by rw [hW3]; simp
  have q1 : W3.cell? ⟨w3.heap.size, 1, none⟩ = some (.int .i64 (a : Int)) := by rw [hW3]; simp
  have qs : w3.heap.size < W3.heap.size := by rw [hW3]; simp
  have qfr : ∀ o, W3.frozen? ⟨w3.heap.size, o, none⟩ = false := by intro o; rw [hW3]; simp
  have p0 := (iW3.cells _ _ ps).trans p0
  have p1 := (iW3.cells _ _ ps).trans p1
  have pfr := fun o => (iW3.frozens _ o ps).trans (pfr o)
  have ps := Nat.lt_of_lt_of_le ps iW3.size
  have hw3 : Within w W3 := HW2.out.trans (h3.trans iW3)
  have HQ : Hid (w.heap.size ≤ w3.heap.size) := Lib.hid (HW2.out.trans h3).size
  have hrl : rs.length ≤ 1048576 := by
    by_cases hm : b.take 8 = magicV
    · exact (BACK.out hm).2.1
    · have := HLR.out; rw [logRead_no hm] at this; simp only [Prod.mk.injEq] at this; rw [← this.1]; exact Nat.zero_le _
  have SM := Rsame22_any A2 A3 c2 c3 (rs.map Rec.i) (by rw [List.length_map]; omega) W3 (HB2.out.of (h3.trans iW3)) (hB3.of iW3)
  rw [List.length_map] at SM
  have SMH := Lib.hid SM
  have HW3 := Lib.hid hw3; have E3 := Lib.hid hW3
  have hne : ¬ w2.heap.size = w3.heap.size := by have := h3.size; omega
  clear h3 hL3 hB3 hw3 hW3 iW3 SM HB2 hrl
  go_wp2_with fail
  rw [← E3.out]
  refine SMH.out.mono ?_; rintro e4 w4 ⟨rfl, h4⟩
  clear SMH
  have p0 := (h4.cells _ _ ps).trans p0
  have p1 := (h4.cells _ _ ps).trans p1
  have pfr := fun o => (h4.frozens _ o ps).trans (pfr o)
  have ps := Nat.lt_of_lt_of_le ps h4.size
  have q0 := (h4.cells _ _ qs).trans q0
  have q1 := (h4.cells _ _ qs).trans q1
  have qfr := fun o => (h4.frozens _ o qs).trans (qfr o)
  have qs := Nat.lt_of_lt_of_le qs h4.size
  have HW4 := Lib.hid (HW3.out.trans h4); clear h4
  go_wp2_with fail
  refine (tail_same _ _ _).mono ?_; rintro e5 w5 ⟨rfl, h5⟩
  have p0 := (h5.cells _ _ ps).trans p0
  have p1 := (h5.cells _ _ ps).trans p1
  have pfr := fun o => (h5.frozens _ o ps).trans (pfr o)
  have ps := Nat.lt_of_lt_of_le ps h5.size
  have q0 := (h5.cells _ _ qs).trans q0
  have q1 := (h5.cells _ _ qs).trans q1
  have qfr := fun o => (h5.frozens _ o qs).trans (qfr o)
  have qs := Nat.lt_of_lt_of_le qs h5.size
  have HW5 := Lib.hid (HW4.out.trans h5); clear h5
  go_wp2_with fail
  refine (AW.out _ HW5.out).mono ?_; rintro e6 w6 ⟨rfl, h6⟩
  have p0 := (h6.cells _ _ ps).trans p0
  have p1 := (h6.cells _ _ ps).trans p1
  have pfr := fun o => (h6.frozens _ o ps).trans (pfr o)
  have ps := Nat.lt_of_lt_of_le ps h6.size
  have q0 := (h6.cells _ _ qs).trans q0
  have q1 := (h6.cells _ _ qs).trans q1
  have qfr := fun o => (h6.frozens _ o qs).trans (qfr o)
  have qs := Nat.lt_of_lt_of_le qs h6.size
  have hw6 := HW5.out.trans h6; clear h6
  obtain ⟨A7, c7, w7, hrun7, hc7, hs7, _, h7⟩ := CPY.out w6 hw6
  have p0 := (h7.cells _ _ ps).trans p0
  have p1 := (h7.cells _ _ ps).trans p1
  have pfr := fun o => (h7.frozens _ o ps).trans (pfr o)
  have ps := Nat.lt_of_lt_of_le ps h7.size
  have q0 := (h7.cells _ _ qs).trans q0
  have q1 := (h7.cells _ _ qs).trans q1
  have qfr := fun o => (h7.frozens _ o qs).trans (qfr o)
  have qs := Nat.lt_of_lt_of_le qs h7.size
  have HPL : Hid (w2.heap.size < w7.heap.size) := Lib.hid ps
  have HQL : Hid (w3.heap.size < w7.heap.size) := Lib.hid qs
  have RUN7 := Lib.hid hrun7; have HS7 := Lib.hid hs7; have HW7 := Lib.hid (hw6.trans h7); clear hrun7 hs7 h7 hw6
  go_wp2_with (at_builtin; refine wpList_append_run rfl (.tmp 36) (.tmp 37) 22 rfl _ _ rfl rfl RUN7.out ?_)
  refine (OPN.out w7 A7 c7 HW7.out hc7 HS7.out).mono ?_; rintro e8 w8 ⟨px, rfl, h8, hcx⟩
  clear OPN
  have hpw : w.heap.size ≤ w2.heap.size := HP.out
  have hqw : w.heap.size ≤ w3.heap.size := HQ.out
  have p0 := (h8.cells _ _ ps).trans p0
  have p1 := (h8.cells _ _ ps).trans p1
  have pfr := fun o => (h8.frozens _ o ps).trans (pfr o)
  have ps := Nat.lt_of_lt_of_le ps h8.size
  have q0 := (h8.cells _ _ qs).trans q0
  have q1 := (h8.cells _ _ qs).trans q1
  have qfr := fun o => (h8.frozens _ o qs).trans (qfr o)
  have qs := Nat.lt_of_lt_of_le qs h8.size
  have HW8 := Lib.hid (HW7.out.trans h8); have H8 := Lib.hid h8; have HCX := Lib.hid hcx; clear h8 hcx
  obtain ⟨W8, hW8⟩ : ∃ W, W = (w8.setCell ⟨w2.heap.size, 0, none⟩ (.int .i64 (y : Int))).setCell ⟨w2.heap.size, 1, none⟩ (.int .i64 (a : Int)) := ⟨_, rfl⟩
  have zW8 : W8.heap.size = w8.heap.size := by rw [hW8]; simp [World.setCell]
  have q0 : W8.cell? ⟨w3.heap.size, 0, none⟩ = some (.int .i64 (y : Int)) := by rw [hW8, World.cell?_setCell_other _ _ _ _ (by first | (simp; done) | (simp; omega)), World.cell?_setCell_other _ _ _ _ (by first | (simp; done) | (simp; omega))]; exact q0
  have q1 : W8.cell? ⟨w3.heap.size, 1, none⟩ = some (.int .i64 (a : Int)) := by rw [hW8, World.cell?_setCell_other _ _ _ _ (by first | (simp; done) | (simp; omega)), World.cell?_setCell_other _ _ _ _ (by first | (simp; done) | (simp; omega))]; exact q1
  have p0 : W8.cell? ⟨w2.heap.size, 0, none⟩ = some (.int .i64 (y : Int)) := by rw [hW8, World.cell?_setCell_other _ _ _ _ (by simp)]; exact World.cell?_setCell_same _ _ _ p0
  have p1 : W8.cell? ⟨w2.heap.size, 1, none⟩ = some (.int .i64 (a : Int)) := by rw [hW8]; exact World.cell?_setCell_same _ _ _ ((World.cell?_setCell_other _ _ _ _ (by simp)).trans p1)
  have pfr : ∀ o, W8.frozen? ⟨w2.heap.size, o, none⟩ = false := by intro o; rw [hW8, World.frozen?_setCell, World.frozen?_setCell]; exact pfr o
  have ps : w2.heap.size < W8.heap.size := by rw [zW8]; exact ps
  have qfr : ∀ o, W8.frozen? ⟨w3.heap.size, o, none⟩ = false := by intro o; rw [hW8, World.frozen?_setCell, World.frozen?_setCell]; exact qfr o
  have qs : w3.heap.size < W8.heap.size := by rw [zW8]; exact qs
  have hw8 : Within w W8 := by rw [hW8]; exact (HW8.out.setCell hpw _).setCell hpw _
  have HB8 : Hid (But w2.heap.size w8 W8) := Lib.hid (by rw [hW8]; exact ((But.refl w2.heap.size w8).set (p := ⟨w2.heap.size, 0, none⟩) (.inl rfl) _).set (p := ⟨w2.heap.size, 1, none⟩) (.inl rfl) _)
  have HQL8 : Hid (w3.heap.size < W8.heap.size) := Lib.hid qs
  have E8 := Lib.hid hW8; clear hW8
  go_wp2_with fail
  rw [← E8.out]
  refine (ROP.out W8 hw8).mono ?_; rintro e9 w9 ⟨py, rfl, h9, hcy⟩
  clear ROP
  have p0 := (h9.cells _ _ ps).trans p0
  have p1 := (h9.cells _ _ ps).trans p1
  have pfr := fun o => (h9.frozens _ o ps).trans (pfr o)
  have ps := Nat.lt_of_lt_of_le ps h9.size
  have q0 := (h9.cells _ _ qs).trans q0
  have q1 := (h9.cells _ _ qs).trans q1
  have qfr := fun o => (h9.frozens _ o qs).trans (qfr o)
  have qs := Nat.lt_of_lt_of_le qs h9.size
  have HW9 := Lib.hid (hw8.trans h9); have H9 := Lib.hid h9; have HCY := Lib.hid hcy; clear h9 hcy hw8
  obtain ⟨W9, hW9⟩ : ∃ W, W = (w9.setCell ⟨w3.heap.size, 0, none⟩ (.int .i64 (y : Int))).setCell ⟨w3.heap.size, 1, none⟩ (.int .i64 (a : Int)) := ⟨_, rfl⟩
  have zW9 : W9.heap.size = w9.heap.size := by rw [hW9]; simp [World.setCell]
  have p0 : W9.cell? ⟨w2.heap.size, 0, none⟩ = some (.int .i64 (y : Int)) := by rw [hW9, World.cell?_setCell_other _ _ _ _ (by first | (simp; done) | (simp; omega)), World.cell?_setCell_other _ _ _ _ (by first | (simp; done) | (simp; omega))]; exact p0
  have p1 : W9.cell? ⟨w2.heap.size, 1, none⟩ = some (.int .i64 (a : Int)) := by rw [hW9, World.cell?_setCell_other _ _ _ _ (by first | (simp; done) | (simp; omega)), World.cell?_setCell_other _ _ _ _ (by first | (simp; done) | (simp; omega))]; exact p1
  have q0 : W9.cell? ⟨w3.heap.size, 0, none⟩ = some (.int .i64 (y : Int)) := by rw [hW9, World.cell?_setCell_other _ _ _ _ (by simp)]; exact World.cell?_setCell_same _ _ _ q0
  have q1 : W9.cell? ⟨w3.heap.size, 1, none⟩ = some (.int .i64 (a : Int)) := by rw [hW9]; exact World.cell?_setCell_same _ _ _ ((World.cell?_setCell_other _ _ _ _ (by simp)).trans q1)
  have qfr : ∀ o, W9.frozen? ⟨w3.heap.size, o, none⟩ = false := by intro o; rw [hW9, World.frozen?_setCell, World.frozen?_setCell]; exact qfr o
  have qs : w3.heap.size < W9.heap.size := by rw [zW9]; exact qs
  have pfr : ∀ o, W9.frozen? ⟨w2.heap.size, o, none⟩ = false := by intro o; rw [hW9, World.frozen?_setCell, World.frozen?_setCell]; exact pfr o
  have ps : w2.heap.size < W9.heap.size := by rw [zW9]; exact ps
  have hw9 : Within w W9 := by rw [hW9]; exact (HW9.out.setCell hqw _).setCell hqw _
  have HB9 : Hid (But w3.heap.size w9 W9) := Lib.hid (by rw [hW9]; exact ((But.refl w3.heap.size w9).set (p := ⟨w3.heap.size, 0, none⟩) (.inl rfl) _).set (p := ⟨w3.heap.size, 1, none⟩) (.inl rfl) _)
  have E9 := Lib.hid hW9; clear hW9
  go_wp2_with fail
  rw [← E9.out]
  refine (tail_same _ _ _).mono ?_; rintro e10 w10 ⟨rfl, h10⟩
  have HW10 := Lib.hid (hw9.trans h10); have H10 := Lib.hid h10; clear h10 hw9
  rcases HCX.out with ⟨hno, rfl⟩ | ⟨hm, xb, rfl, hLX⟩
  · rcases HCY.out with ⟨_, rfl⟩ | ⟨hm, _⟩
    rotate_left
    · exact absurd hm hno
    go_wp2_with fail
    refine wp_region_schG (fun W => W = w10) 21 (.firm 0 (.firm 1 (.firm 2 (.firm 3 (.firm 6 (.one 4 (.firm 5 (.one 7 (.firm 8 (.firm 9 (.firm 10 (.firm 11 (.firm 13 (.firm 14 (.firm 15 (.firm 16 (.firm 17 (.one 12 (.firm 18 (.firm 19 (.firm 20 (.one 21 .nil)))))))))))))))))))))) (by kernel_rfl) (by kernel_rfl) rfl ?_
    rintro w0 rfl
    try simp only [Act.put, List.setIfInBounds_toArray, List.set_cons_zero, List.set_cons_succ]
    iterate 3
      apply sch_firm rfl rfl (by repeat (first | with_reducible exact Within.refl _ | with_reducible assumption | with_reducible refine Within.alloc ?_ _ | with_reducible refine Within.drew ?_ | with_reducible refine Within.drewN ?_ _ | with_reducible refine Within.setCell ?_ (by first | (simp; done) | (simp; omega)) _ | with_reducible refine Within.trans ?_ (by assumption)))
      · intro wq hq
        have hcq := hq.cells
        clear hq
        go_simp
        rfl
      try simp only [Act.put, List.setIfInBounds_toArray, List.set_cons_zero, List.set_cons_succ]
    iterate 2
      refine sch_skip rfl (by first | rfl | decide | (simp [Region.wanted, yielded]; done)) (by repeat (first | with_reducible exact Within.refl _ | with_reducible assumption | with_reducible refine Within.alloc ?_ _ | with_reducible refine Within.drew ?_ | with_reducible refine Within.drewN ?_ _ | with_reducible refine Within.setCell ?_ (by first | (simp; done) | (simp; omega)) _ | with_reducible refine Within.trans ?_ (by assumption))) ?_
      try simp only [Act.put, List.setIfInBounds_toArray, List.set_cons_zero, List.set_cons_succ]
    refine sch_one_skip rfl (by first | rfl | decide | (simp [Region.wanted, yielded]; done)) (by repeat (first | with_reducible exact Within.refl _ | with_reducible assumption | with_reducible refine Within.alloc ?_ _ | with_reducible refine Within.drew ?_ | with_reducible refine Within.drewN ?_ _ | with_reducible refine Within.setCell ?_ (by first | (simp; done) | (simp; omega)) _ | with_reducible refine Within.trans ?_ (by assumption))) ?_
    try simp only [Act.put, List.setIfInBounds_toArray, List.set_cons_zero, List.set_cons_succ]
    refine sch_skip rfl (by first | rfl | decide | (simp [Region.wanted, yielded]; done)) (by repeat (first | with_reducible exact Within.refl _ | with_reducible assumption | with_reducible refine Within.alloc ?_ _ | with_reducible refine Within.drew ?_ | with_reducible refine Within.drewN ?_ _ | with_reducible refine Within.setCell ?_ (by first | (simp; done) | (simp; omega)) _ | with_reducible refine Within.trans ?_ (by assumption))) ?_
    try simp only [Act.put, List.setIfInBounds_toArray, List.set_cons_zero, List.set_cons_succ]
    refine sch_one_skip rfl (by first | rfl | decide | (simp [Region.wanted, yielded]; done)) (by repeat (first | with_reducible exact Within.refl _ | with_reducible assumption | with_reducible refine Within.alloc ?_ _ | with_reducible refine Within.drew ?_ | with_reducible refine Within.drewN ?_ _ | with_reducible refine Within.setCell ?_ (by first | (simp; done) | (simp; omega)) _ | with_reducible refine Within.trans ?_ (by assumption))) ?_
    try simp only [Act.put, List.setIfInBounds_toArray, List.set_cons_zero, List.set_cons_succ]
    iterate 9
      refine sch_skip rfl (by first | rfl | decide | (simp [Region.wanted, yielded]; done)) (by repeat (first | with_reducible exact Within.refl _ | with_reducible assumption | with_reducible refine Within.alloc ?_ _ | with_reducible refine Within.drew ?_ | with_reducible refine Within.drewN ?_ _ | with_reducible refine Within.setCell ?_ (by first | (simp; done) | (simp; omega)) _ | with_reducible refine Within.trans ?_ (by assumption))) ?_
      try simp only [Act.put, List.setIfInBounds_toArray, List.set_cons_zero, List.set_cons_succ]
    refine sch_one_skip rfl (by first | rfl | decide | (simp [Region.wanted, yielded]; done)) (by repeat (first | with_reducible exact Within.refl _ | with_reducible assumption | with_reducible refine Within.alloc ?_ _ | with_reducible refine Within.drew ?_ | with_reducible refine Within.drewN ?_ _ | with_reducible refine Within.setCell ?_ (by first | (simp; done) | (simp; omega)) _ | with_reducible refine Within.trans ?_ (by assumption))) ?_
    try simp only [Act.put, List.setIfInBounds_toArray, List.set_cons_zero, List.set_cons_succ]
    iterate 2
      refine sch_skip rfl (by first | rfl | decide | (simp [Region.wanted, yielded]; done)) (by repeat (first | with_reducible exact Within.refl _ | with_reducible assumption | with_reducible refine Within.alloc ?_ _ | with_reducible refine Within.drew ?_ | with_reducible refine Within.drewN ?_ _ | with_reducible refine Within.setCell ?_ (by first | (simp; done) | (simp; omega)) _ | with_reducible refine Within.trans ?_ (by assumption))) ?_
      try simp only [Act.put, List.setIfInBounds_toArray, List.set_cons_zero, List.set_cons_succ]
    apply sch_firm rfl rfl (by repeat (first | with_reducible exact Within.refl _ | with_reducible assumption | with_reducible refine Within.alloc ?_ _ | with_reducible refine Within.drew ?_ | with_reducible refine Within.drewN ?_ _ | with_reducible refine Within.setCell ?_ (by first | (simp; done) | (simp; omega)) _ | with_reducible refine Within.trans ?_ (by assumption)))
    · intro wq hq
      have hcq := hq.cells
      clear hq
      go_simp
      rfl
    try simp only [Act.put, List.setIfInBounds_toArray, List.set_cons_zero, List.set_cons_succ]
    refine sch_one rfl rfl (fun K hK => ?_)
    go_simp
    refine hK _ _ (fun h => absurd h (by decide)) ?_
    clear hK K
    try simp only [Act.put, List.setIfInBounds_toArray, List.set_cons_zero, List.set_cons_succ]
    refine sch_nil ?_
    go_wp2
    go_ret
    exact ⟨rfl, HW10.out.drew⟩
  · rcases HCY.out with ⟨hno, _⟩ | ⟨_, yb, rfl, hLY⟩
    · exact absurd hm hno
    obtain ⟨hok, hle, _, _, _⟩ := BACK.out hm
    have hok : ∀ r ∈ rs, r.Ok pf := hok
    have hle : rs.length ≤ 1048576 := hle
    have hLX8 := LogS.keep hLX (w' := W8) (fun j hj hl => HB8.out.block j hl (fun e => by have h1 := Option.some.inj e; have h2 := HPL.out; have h3 := hj.1; omega))
    have hLX9 := (hLX8.of H9.out).keep (w' := W9) (fun j hj hl => HB9.out.block j hl (fun e => by have h1 := Option.some.inj e; have h2 := HQL.out; have h3 := hj.1; omega))
    have hLX10 := hLX9.of H10.out
    have hLY9 := RlogS.keep hLY (w' := W9) (fun j hj hl => HB9.out.block j hl (fun e => by have h1 := Option.some.inj e; have h2 := HQL8.out; have h3 := hj.1; omega))
    have hLY10 := hLY9.of H10.out
    have hlog := logV_le (fun q hq => (hok q hq).parts.2.2) hle
    have BYX := Lib.hid (fun W (h : Within w10 W) => Bytes_log _ xb rs hlog W (hLX10.of h))
    have BYY := Lib.hid (fun W (h : Within w10 W) => Rbytes_log _ yb rs hok hle W (hLY10.of h))
    have LEN := Lib.hid (fun W (h : Within w10 W) => Len_log _ xb rs W (hLX10.of h))
    obtain ⟨Ay, cy, yc, _, _, _⟩ := hLY10.list
    have yl := hLY10.lt
    obtain ⟨s, hs⟩ : ∃ s, strB (logV rs) = s := ⟨_, rfl⟩
    obtain ⟨m, hmm⟩ : ∃ m, (logV rs).length = m := ⟨_, rfl⟩
    have ST : Hid (∀ W A' c', SlAt W A' (u8v (logV rs)) → (convert 22 9 (.slice A' m c')).run Tryd.prog W = .ok (.string s) W) := Lib.hid (fun W A' c' h => by rw [← hmm, ← hs]; exact run_str A' c' (logV rs) W h)
    have es : (s.toList == s.toList) = true := by simp
    have HMM := Lib.hid hmm; clear hmm hs hlog hLX hLY hLX8 hLX9 hLX10 hLY9 hLY10 hok hle hm p0 p1 pfr ps q0 q1 qfr qs
    go_wp2_with fail
    refine wp_region_shf (fun _ => True) (fun W => Within w10 W ∧ True) 21 (.firm 0 (.firm 1 (.firm 2 (.firm 3 (.firm 6 (.one 4 (.turn (.sch (.firm 5 (.one 7 (.one 8 (.firm 9 (.firm 10 (.firm 11 (.firm 13 (.firm 14 (.firm 15 (.firm 16 (.firm 17 (.one 12 (.firm 18 (.firm 19 (.firm 20 (.one 21 .nil)))))))))))))))))))))))) (by kernel_rfl) (by kernel_rfl) ⟨Within.refl _, trivial⟩ ?_
    rintro w0 ⟨hw0, _⟩
    try simp only [Act.put, List.setIfInBounds_toArray, List.set_cons_zero, List.set_cons_succ]
    iterate 3
      apply shf_firm rfl rfl trivial
      · intro wq _
        go_simp
        rfl
      try simp only [Act.put, List.setIfInBounds_toArray, List.set_cons_zero, List.set_cons_succ]
    apply shf_want rfl (by first | rfl | decide | (simp [Region.wanted, yielded]; done)) trivial
    · intro wq _
      go_simp
      rfl
    try simp only [Act.put, List.setIfInBounds_toArray, List.set_cons_zero, List.set_cons_succ]
    apply shf_want rfl (by first | rfl | decide | (simp [Region.wanted, yielded]; done)) trivial
    · intro wq _
      go_simp
      rfl
    try simp only [Act.put, List.setIfInBounds_toArray, List.set_cons_zero, List.set_cons_succ]
    refine shf_one_want rfl (by first | rfl | decide | (simp [Region.wanted, yielded]; done)) (fun K hK => ?_)
    go_simp
    refine (BYX.out _ (by exact hw0.drew)).mono ?_; rintro e11 w11 ⟨v11, rfl, hO11, h11⟩
    obtain ⟨A11, c11, rfl, _, hs11, _⟩ := hO11.form
    rw [HMM.out]
    clear hO11
    refine hK _ _ trivial ?_
    clear hK K
    try simp only [Act.put, List.setIfInBounds_toArray, List.set_cons_zero, List.set_cons_succ]
    have hx11 : Within w10 w11 := hw0.drew.trans h11
    have yc := (hx11.cells _ _ yl).trans yc
    have yl := Nat.lt_of_lt_of_le yl hx11.size
    refine shf_turn (Within w11) (fun _ _ => trivial) ?_
    refine shf_sch ?_
    apply sch_want rfl (by first | rfl | decide | (simp [Region.wanted, yielded]; done)) (by repeat (first | with_reducible exact Within.refl _ | with_reducible assumption | with_reducible refine Within.alloc ?_ _ | with_reducible refine Within.drew ?_ | with_reducible refine Within.drewN ?_ _ | with_reducible refine Within.setCell ?_ (by first | (simp; done) | (simp; omega)) _ | with_reducible refine Within.trans ?_ (by assumption)))
    · intro wq hq
      have hcq := hq.cells
      have st1 := ST.out wq A11 c11 (hs11.of hq)
      have yl' := Nat.lt_of_lt_of_le yl hq.size
      clear hq
      go_simp
      rfl
    try simp only [Act.put, List.setIfInBounds_toArray, List.set_cons_zero, List.set_cons_succ]
    refine sch_one_want rfl (by first | rfl | decide | (simp [Region.wanted, yielded]; done)) (fun K hK => ?_)
    go_simp
    refine (BYY.out _ (by exact hx11)).mono ?_; rintro e12 w12 ⟨v12, rfl, hO12, h12⟩
    obtain ⟨A12, c12, rfl, _, hs12, _⟩ := hO12.form
    rw [HMM.out]
    have st2 := ST.out w12 A12 c12 hs12
    clear hO12 hs12
    refine hK _ _ (fun _ => (by repeat (first | with_reducible exact Within.refl _ | with_reducible assumption | with_reducible refine Within.alloc ?_ _ | with_reducible refine Within.drew ?_ | with_reducible refine Within.drewN ?_ _ | with_reducible refine Within.setCell ?_ (by first | (simp; done) | (simp; omega)) _ | with_reducible refine Within.trans ?_ (by assumption)))) ?_
    clear hK K
    try simp only [Act.put, List.setIfInBounds_toArray, List.set_cons_zero, List.set_cons_succ]
    refine sch_one_want rfl (by first | rfl | decide | (simp [Region.wanted, yielded]; done)) (fun K hK => ?_)
    go_simp
    refine hK _ _ (fun _ => (by repeat (first | with_reducible exact Within.refl _ | with_reducible assumption | with_reducible refine Within.alloc ?_ _ | with_reducible refine Within.drew ?_ | with_reducible refine Within.drewN ?_ _ | with_reducible refine Within.setCell ?_ (by first | (simp; done) | (simp; omega)) _ | with_reducible refine Within.trans ?_ (by assumption)))) ?_
    clear hK K
    try simp only [Act.put, List.setIfInBounds_toArray, List.set_cons_zero, List.set_cons_succ]
    iterate 8
      apply sch_want rfl (by first | rfl | decide | (simp [Region.wanted, yielded]; done)) (by repeat (first | with_reducible exact Within.refl _ | with_reducible assumption | with_reducible refine Within.alloc ?_ _ | with_reducible refine Within.drew ?_ | with_reducible refine Within.drewN ?_ _ | with_reducible refine Within.setCell ?_ (by first | (simp; done) | (simp; omega)) _ | with_reducible refine Within.trans ?_ (by assumption)))
      · intro wq hq
        have hcq := hq.cells
        have st1 := ST.out wq A11 c11 (hs11.of hq)
        have yl' := Nat.lt_of_lt_of_le yl hq.size
        clear hq
        go_simp
        rfl
      try simp only [Act.put, List.setIfInBounds_toArray, List.set_cons_zero, List.set_cons_succ]
    refine sch_one_want rfl (by first | rfl | decide | (simp [Region.wanted, yielded]; done)) (fun K hK => ?_)
    go_simp
    refine (LEN.out _ (by exact hx11.trans h12)).mono ?_; rintro e13 w13 ⟨rfl, rfl⟩
    refine hK _ _ (fun _ => (by repeat (first | with_reducible exact Within.refl _ | with_reducible assumption | with_reducible refine Within.alloc ?_ _ | with_reducible refine Within.drew ?_ | with_reducible refine Within.drewN ?_ _ | with_reducible refine Within.setCell ?_ (by first | (simp; done) | (simp; omega)) _ | with_reducible refine Within.trans ?_ (by assumption)))) ?_
    clear hK K
    try simp only [Act.put, List.setIfInBounds_toArray, List.set_cons_zero, List.set_cons_succ]
    iterate 2
      apply sch_want rfl (by first | rfl | decide | (simp [Region.wanted, yielded]; done)) (by repeat (first | with_reducible exact Within.refl _ | with_reducible assumption | with_reducible refine Within.alloc ?_ _ | with_reducible refine Within.drew ?_ | with_reducible refine Within.drewN ?_ _ | with_reducible refine Within.setCell ?_ (by first | (simp; done) | (simp; omega)) _ | with_reducible refine Within.trans ?_ (by assumption)))
      · intro wq hq
        have hcq := hq.cells
        have st1 := ST.out wq A11 c11 (hs11.of hq)
        have yl' := Nat.lt_of_lt_of_le yl hq.size
        clear hq
        go_simp
        rfl
      try simp only [Act.put, List.setIfInBounds_toArray, List.set_cons_zero, List.set_cons_succ]
    apply sch_firm rfl rfl (by repeat (first | with_reducible exact Within.refl _ | with_reducible assumption | with_reducible refine Within.alloc ?_ _ | with_reducible refine Within.drew ?_ | with_reducible refine Within.drewN ?_ _ | with_reducible refine Within.setCell ?_ (by first | (simp; done) | (simp; omega)) _ | with_reducible refine Within.trans ?_ (by assumption)))
    · intro wq hq
      have hcq := hq.cells
      have st1 := ST.out wq A11 c11 (hs11.of hq)
      have yl' := Nat.lt_of_lt_of_le yl hq.size
      clear hq
      go_simp
      rfl
    try simp only [Act.put, List.setIfInBounds_toArray, List.set_cons_zero, List.set_cons_succ]
    refine sch_one rfl rfl (fun K hK => ?_)
    go_simp
    refine hK _ _ (fun h => absurd h (by decide)) ?_
    clear hK K
    try simp only [Act.put, List.setIfInBounds_toArray, List.set_cons_zero, List.set_cons_succ]
    refine sch_nil ?_
    go_wp2
    go_ret
    exact ⟨rfl, HW10.out.trans (hx11.trans (by first | assumption | exact Within.trans h12 (by assumption)))⟩

end Go.Proofs.YtpmjlaiafgbjgaaDoor
end

section
namespace Go.Proofs.YtpmjlaiafgbjgaaDoor.Base
open Go.ChangeShapes Go.WideShapes Go.ChangeAt Go.RowKit

theorem own : ownKnob Tryd.prog.godebug = none := by kernel_rfl
theorem laidOut : laidOutB Tryd.prog = true := by kernel_rfl
theorem gS : Tryd.prog.globalNamed "binnacle/convert.single" = some 1 := by kernel_rfl
theorem gST : (Tryd.prog.globals[1]?).map (·.type) = some 148 := by kernel_rfl
theorem cellsI : Tryd.prog.cellsOf 3 = 1 := by kernel_rfl

theorem fmt_cells {W : World} {name : String} {g : Nat} {a b c : Int} {rest : List (String × DataW Unit)} {ps : List MemPlace}
    (hg : Tryd.prog.globalNamed name = some g) (hty : (Tryd.prog.globals[g]?).map (·.type) = some 148)
    (h : DataW.LaidVars Tryd.prog W ((name, .agg [.lit (.int .i64 a), .lit (.int .i64 b), .lit (.int .i64 c)]) :: rest) ps) :
    (W.cell? ⟨g, 0, none⟩ = some (.int .i64 a) ∧ W.cell? ⟨g, 1, none⟩ = some (.int .i64 b) ∧ W.cell? ⟨g, 2, none⟩ = some (.int .i64 c)) ∧ ∃ q, DataW.LaidVars Tryd.prog W rest q := by
  obtain ⟨g', t', cs, fuel, p, q, hg', ht', hvar, hd, hr, _⟩ := h
  obtain rfl := Option.some.inj (hg.symm.trans hg')
  obtain rfl := Option.some.inj (hty.symm.trans ht')
  obtain ⟨y0, y1, y2, n, hx, hl, h0, h1, h2⟩ := Go.Deep.trod_struct3 Tryd.underlying148 hd
  obtain ⟨c0, e0, x0, _⟩ := DataW.trod_int Tryd.underlying3 h0
  obtain ⟨c1, e1, x1, _⟩ := DataW.trod_int Tryd.underlying3 h1
  obtain ⟨c2, e2, x2, _⟩ := DataW.trod_int Tryd.underlying3 h2
  subst x0 x1 x2
  have hx1 := congrArg Prod.fst hx
  simp at hx1
  obtain ⟨rfl, rfl, rfl⟩ := hx1
  have v := World.var?_cell hg hvar
  refine ⟨⟨?_, ?_, ?_⟩, q, hr⟩
  · rw [v 0]
    have := congrArg (·[0]?) e0
    simpa [cellsI, List.getElem?_take, List.getElem?_drop] using this
  · rw [v 1]
    have := congrArg (·[0]?) e1
    simpa [cellsI, List.getElem?_take, List.getElem?_drop] using this
  · rw [v 2]
    have := congrArg (·[0]?) e2
    simpa [cellsI, List.getElem?_take, List.getElem?_drop] using this

theorem fmS {W : World} {rest : List (String × DataW Unit)} (h : laidMet Tryd.prog (("binnacle/convert.single", Rows.laid_binnacle_convert_single) :: rest) W) : FmS W := by
  obtain ⟨ps, h1, _⟩ := h
  exact (fmt_cells gS gST h1).1
theorem nat_of_u32 {n : Int} (h : (Lit.int .u32 n).wf = true) : ∃ a : Nat, n = a ∧ a < 4294967296 := by
  simp only [Lit.wf, Bool.and_eq_true, decide_eq_true_eq] at h
  have h1 : (0 : Int) ≤ n := h.1
  have h2 : n ≤ 4294967295 := h.2
  exact ⟨n.toNat, by omega, by omega⟩
theorem int_of_i64 {n : Int} (h : (Lit.int .i64 n).wf = true) : -9223372036854775808 ≤ n ∧ n < 9223372036854775808 := by
  simp only [Lit.wf, Bool.and_eq_true, decide_eq_true_eq] at h
  have h1 : (-9223372036854775808 : Int) ≤ n := h.1
  have h2 : n ≤ 9223372036854775807 := h.2
  exact ⟨h1, by omega⟩

/-- a variable's cells, as its initialiser lays them -/
def layVar (g : Nat) (cs : Array Value) (h : Array Obj) : Array Obj := h.modify g fun
  | .cells _ t frozen => .cells cs t frozen
  | o => o
/-- a world for the witness: the settled one, the format as its initialiser lays it -/
noncomputable def laidWorld (os : Os) : World :=
  { World.holding Tryd.prog os ⟨#[], #[], []⟩ with heap := layVar 1 #[.int .i64 24, .int .i64 (-126), .int .i64 127] (World.holding Tryd.prog os ⟨#[], #[], []⟩).heap }

section
variable {H : Type} {enc : TypeId × Value → H} {W : World}
/-- a slice of whole numbers opened, nil or not -/
theorem open_ns {t e : TypeId} {k : IntKind} {y : Nat} (ht : Tryd.prog.underlying t = some (.slice e)) (he : Tryd.prog.underlying e = some (.int k)) (hc : Tryd.prog.cellsOf e = 1) (hy : Tryd.prog.bytesOf e = y) {fuel : Nat} {v : Value} {x : DataW H × List MemPlace}
    (h : DataW.trod enc Tryd.prog W 0 (fun _ => true) true fuel t [v] = some x) (hz : ∀ n ∈ x.1.weights Tryd.prog t, n ≤ reachBytes) :
    ∃ (a0 : Option Addr) (cap : Nat) (zs : List Int), v = .slice a0 zs.length cap ∧ zs.length ≤ cap ∧ zs.length * y ≤ reachBytes ∧ (∀ n ∈ zs, (Lit.int k n).wf = true) ∧ SlAt W a0 (zs.map (Value.int k)) := by
  rcases open_ints ht he hc h with ⟨hcs, hx⟩ | ⟨a, len, cap, zs, hcs, _, hl, hm, hzl, hx, hcell, hwz⟩
  · simp at hcs
    exact ⟨none, 0, [], hcs, Nat.le_refl _, by simp, (fun n hn => absurd hn (by simp)), SlAt.nil⟩
  · simp at hcs
    simp only [if_true] at hzl
    subst hx
    have hlen : (zs.take len).length = len := by rw [List.length_take]; omega
    refine ⟨some a, cap, zs.take len, by rw [hlen]; exact hcs, by rw [hlen]; exact hl, ?_, fun n hn => hwz n (List.mem_of_mem_take hn), fun hn => ?_⟩
    · have hw := hz (cap * y) (by
        rw [DataW.weights, ht]
        refine List.mem_cons.2 (.inl ?_)
        rw [hy, show (lits (H := H) k (zs.take len)).length + (lits (H := H) k (zs.drop len)).length = cap by
          unfold lits; rw [List.length_map, List.length_map, List.length_take, List.length_drop]; omega])
      rw [hlen]
      exact Nat.le_trans (Nat.mul_le_mul_right _ hl) hw
    · rw [List.length_map, hlen] at hn
      have h0 := hcell 0 (by omega)
      refine ⟨a, rfl, by have := World.block_lt_of_cell? _ _ h0; rwa [add_block] at this, fun j u hu => ?_⟩
      rw [List.getElem?_map, Option.map_eq_some_iff] at hu
      obtain ⟨z, hz1, rfl⟩ := hu
      obtain ⟨hj, hz2⟩ := List.getElem?_eq_some_iff.1 hz1
      rw [hlen] at hj
      rw [hcell j (by omega)]
      rw [List.getElem_take] at hz2
      simp [List.getD, List.getElem?_eq_getElem (show j < zs.length by omega), hz2]
theorem nats_of {k : IntKind} {m : Nat} (hk : ∀ n : Int, (Lit.int k n).wf = true → 0 ≤ n ∧ n < m) {zs : List Int} (h : ∀ n ∈ zs, (Lit.int k n).wf = true) : ∃ l : List Nat, zs = l.map (fun (x : Nat) => (x : Int)) ∧ ∀ x ∈ l, x < m := by
  refine ⟨zs.map Int.toNat, ?_, fun x hx => ?_⟩
  · rw [List.map_map]
    conv => lhs; rw [← List.map_id zs]
    refine List.map_congr_left fun n hn => ?_
    have := (hk n (h n hn)).1
    simp only [id, Function.comp]; omega
  · obtain ⟨n, hn, rfl⟩ := List.mem_map.1 hx
    have := hk n (h n hn)
    omega
theorem wf_u8 (n : Int) (h : (Lit.int .u8 n).wf = true) : 0 ≤ n ∧ n < (256 : Nat) := by
  simp only [Lit.wf, Bool.and_eq_true, decide_eq_true_eq] at h
  have h1 : (0 : Int) ≤ n := h.1
  have h2 : n ≤ 255 := h.2
  omega
theorem wf_u64 (n : Int) (h : (Lit.int .u64 n).wf = true) : 0 ≤ n ∧ n < (18446744073709551616 : Nat) := by
  simp only [Lit.wf, Bool.and_eq_true, decide_eq_true_eq] at h
  have h1 : (0 : Int) ≤ n := h.1
  have h2 : n ≤ 18446744073709551615 := h.2
  omega
set_option maxRecDepth 100000 in
theorem open_u8 {fuel : Nat} {v : Value} {x : DataW H × List MemPlace} (h : DataW.trod enc Tryd.prog W 0 (fun _ => true) true fuel 22 [v] = some x) (hz : ∀ n ∈ x.1.weights Tryd.prog 22, n ≤ reachBytes) :
    ∃ (a0 : Option Addr) (cap : Nat) (l : List Nat), v = .slice a0 l.length cap ∧ l.length ≤ cap ∧ l.length ≤ 140737488355328 ∧ Bytes l ∧ SlAt W a0 (u8v l) := by
  obtain ⟨a0, cap, zs, h1, h2, h3, h4, h5⟩ := open_ns (y := 1) Tryd.underlying22 Tryd.underlying5 (by kernel_rfl) (by kernel_rfl) h hz
  obtain ⟨l, rfl, hl⟩ := nats_of wf_u8 h4
  rw [List.length_map] at h1 h2 h3
  refine ⟨a0, cap, l, h1, h2, ?_, hl, ?_⟩
  · have : reachBytes = 140737488351232 := rfl
    omega
  · unfold u8v; rw [List.map_map] at h5; exact h5
set_option maxRecDepth 100000 in
theorem open_u64 {fuel : Nat} {v : Value} {x : DataW H × List MemPlace} (h : DataW.trod enc Tryd.prog W 0 (fun _ => true) true fuel 57 [v] = some x) (hz : ∀ n ∈ x.1.weights Tryd.prog 57, n ≤ reachBytes) :
    ∃ (a0 : Option Addr) (cap : Nat) (l : List Nat), v = .slice a0 l.length cap ∧ l.length ≤ cap ∧ l.length * 8 ≤ 140737488355328 ∧ (∀ x ∈ l, x < 18446744073709551616) ∧ SlAt W a0 (u64v l) := by
  obtain ⟨a0, cap, zs, h1, h2, h3, h4, h5⟩ := open_ns (y := 8) Tryd.underlying57 Tryd.underlying110 (by kernel_rfl) (by kernel_rfl) h hz
  obtain ⟨l, rfl, hl⟩ := nats_of wf_u64 h4
  rw [List.length_map] at h1 h2 h3
  refine ⟨a0, cap, l, h1, h2, ?_, hl, ?_⟩
  · have : reachBytes = 140737488351232 := rfl
    omega
  · unfold u64v; rw [List.map_map] at h5; exact h5
set_option maxRecDepth 100000 in
theorem open_bytes {r : Reach} {b0 : Nat} {v : Value} {d : DataW H} {p : List MemPlace} (hv : Value.okWide Tryd.prog W r b0 22 v) (h : DataW.Trod enc Tryd.prog W 0 (fun _ => true) true 22 v d p) (hz : ∀ n ∈ d.weights Tryd.prog 22, n ≤ reachBytes) :
    ∃ (a0 : Option Addr) (cap : Nat) (l : List Nat), v = .slice a0 l.length cap ∧ l.length ≤ cap ∧ l.length ≤ 140737488355328 ∧ Bytes l ∧ SlAt W a0 (u8v l) := by
  obtain ⟨a, len, cap, rfl⟩ := okWide_slice Tryd.underlying22 hv
  obtain ⟨fuel, hf⟩ := h
  exact open_u8 (x := (d, p)) (by simpa [Value.cells] using hf) hz
theorem rdCells : Tryd.prog.cellsOf 59 = 4 := by kernel_rfl
set_option maxRecDepth 100000 in
/-- a law's Reading opened -/
theorem open_rd {r : Reach} {b0 : Nat} {v : Value} {d : DataW H} {p : List MemPlace} (hv : Value.okWide Tryd.prog W r b0 59 v) (h : DataW.Trod enc Tryd.prog W 0 (fun _ => true) true 59 v d p)
    (hz : ∀ n ∈ d.weights Tryd.prog 59, n ≤ reachBytes) :
    ∃ (s : Int) (q t : Nat) (a0 : Option Addr) (cap : Nat) (l : List Nat), v = .agg #[.int .i64 s, .int .u32 (q : Int), .int .u32 (t : Int), .slice a0 l.length cap] ∧ q < 4294967296 ∧ t < 4294967296 ∧ l.length ≤ cap ∧ l.length * 8 ≤ 140737488355328 ∧ (∀ x ∈ l, x < 18446744073709551616) ∧ SlAt W a0 (u64v l) ∧ (-9223372036854775808 ≤ s ∧ s < 9223372036854775808) := by
  obtain ⟨v0, v1, v2, v3, y0, y1, y2, y3, n, rfl, rfl, rfl, h0, h1, h2, h3⟩ := Go.Joins.open_agg4 Tryd.underlying59 (by kernel_rfl) rdCells hv h
  obtain ⟨s, e0, x0, w0⟩ := DataW.trod_int Tryd.underlying3 h0
  obtain ⟨q, e1, x1, w1⟩ := DataW.trod_int Tryd.underlying56 h1
  obtain ⟨t, e2, x2, w2⟩ := DataW.trod_int Tryd.underlying56 h2
  obtain ⟨a0, cap, l, rfl, h4, h5, h6, h7⟩ := open_u64 h3 (fun n hn => hz n (by
    rw [DataW.weights, Tryd.underlying59]
    exact DataW.weights_mem_each (j := 3) rfl rfl n hn))
  simp at e0 e1 e2
  subst e0 e1 e2
  obtain ⟨q, rfl, hq⟩ := nat_of_u32 w1
  obtain ⟨t, rfl, ht⟩ := nat_of_u32 w2
  exact ⟨s, q, t, a0, cap, l, rfl, hq, ht, h4, h5, h6, h7, int_of_i64 w0⟩
theorem wt_of {ts : List TypeId} {ds : List (DataW H)} (h : (DataW.weightsEach Tryd.prog ts ds).all (· ≤ reachBytes) = true) {j : Nat} {t : TypeId} {d : DataW H} (ht : ts[j]? = some t) (hd : ds[j]? = some d) : ∀ n ∈ d.weights Tryd.prog t, n ≤ reachBytes :=
  fun n hn => of_decide_eq_true (List.all_eq_true.1 h n (DataW.weights_mem_each ht hd n hn))
end
end Go.Proofs.YtpmjlaiafgbjgaaDoor.Base
end

section
namespace Go.Proofs.YtpmjlaiafgbjgaaDoor.journalReads
open Go.ChangeShapes Go.WideShapes Go.ChangeAt Go.RowKit

set_option maxRecDepth 100000 in
theorem contract (H : Type) (enc : TypeId × Value → H) (W : World) (base : Nat) (args : Array Value) (ds gs : List (DataW H)) (before : List MemPlace)
    (hval : ∀ (j : Nat) t v, Tryd.f4.params[j]? = some t → args[j]? = some v → Value.okWide Tryd.prog W .any base t v)
    (hW : DataW.Whole enc Tryd.prog Tryd.f4.params.toList Rows.journalReadsSpec.vars false W args.toList ds gs before)
    (hsz : (DataW.weightsEach Tryd.prog (Tryd.f4.params.toList ++ (OpenSpec.ofChange Rows.journalReadsSpec).bare.plain.varTypes Tryd.prog) (ds ++ gs)).all (· ≤ reachBytes) = true) (hL : laidMetH Tryd.prog Rows.journalReadsRow.laid W) :
    Calls Tryd.prog 4 args W fun e W' => ∃ v, e = .returned v ∧ Rows.journalReadsSpec.post enc Tryd.prog Tryd.f4 false true false false W args v W' := by
  have hW' := hW
  obtain ⟨p, q, hA0, hV, rfl, hfz, hnd⟩ := hW
  have hA : DataW.TrodAll enc Tryd.prog W 0 (fun _ => true) true Tryd.f4.params.toList args.toList ds p := hA0
  rw [Tryd.params4] at hA hval hsz
  obtain ⟨v0, vs0, d0, ds0, p0, q0, hargs, rfl, rfl, h0, r0⟩ := trodAll_cons hA
  obtain ⟨rfl, rfl, rfl⟩ := trodAll_nil r0
  obtain rfl : args = #[v0] := by cases args; simp_all
  obtain ⟨rfl, rfl⟩ := trodVars_none hV
  obtain ⟨A0, c0, l0, rfl, hc0, hn0, hb0, hm0⟩ := Base.open_bytes (hval 0 22 v0 rfl rfl) h0 (Base.wt_of hsz (j := 0) rfl rfl)
  clear hA0
  simp only [List.append_nil] at hW'
  have hlt : ∀ x, x ∈ p0 → x.block < W.heap.size := fun x hx => hW'.lt x (by simpa using hx)
  refine (jreads_walk A0 c0 l0 hb0 hn0 hc0 W (Base.fmS hL) hm0).mono fun e W' ⟨he, bel⟩ => ?_
  subst he
  exact ⟨_, rfl, _, _, _, [], _, [], hW', trodAll_mk1 (shut_bool Tryd.underlying4 _), (trodAll_cons_mk (Below.trod Base.laidOut (by kernel_rfl) (of_decide_eq_true (by kernel_rfl)) h0 bel (fun x hx => hlt x hx)) trodAll_mk0), rfl, Below.frame bel _, fun h => by cases h⟩

theorem laid_met (os : Os) : laidMet Tryd.prog Rows.journalReadsRow.laid ((Base.laidWorld os).forCall (fun _ _ => 0) ⟨#[], #[Value.slice none 0 0], []⟩).memory :=
  laidMet_of_run' 8 (by kernel_rfl) (by kernel_rfl)
theorem reads (os : Os) {H : Type} (enc : TypeId × Value → H) : ∃ places, DataW.whole enc Tryd.prog ((Base.laidWorld os).forCall (fun _ _ => 0) ⟨#[], #[Value.slice none 0 0], []⟩).memory Tryd.f4.params.toList Rows.journalReadsSpec.vars false (#[Value.slice none 0 0] : Array Value).toList 8 = some ([.nil], [], places) :=
  ⟨[], by kernel_rfl⟩

set_option maxRecDepth 100000 in
theorem lifted (os : Os) (started : os.Started) (H : Type) (enc : TypeId × Value → H) (F : Stop.Interp) :
    ReturnsInHanded {} Tryd.checked os 4 .any ((OpenSpec.ofChange Rows.journalReadsSpec).preRow enc Tryd.prog Tryd.f4 Rows.journalReadsRow.domain false Rows.journalReadsRow.laid) (((OpenSpec.ofChange Rows.journalReadsSpec).at F).post enc Tryd.prog Tryd.f4 false true false false) := by
  obtain ⟨places, hx⟩ := reads os enc
  refine returnsInHanded_of_row (C := Tryd.checked) (s := OpenSpec.ofChange Rows.journalReadsSpec) Base.own started (by kernel_rfl) Tryd.func4
    (witness_row_at (enc := enc) (C := Tryd.checked) false (Base.laidWorld os) #[Value.slice none 0 0] rfl (by kernel_rfl) (by kernel_rfl) (by kernel_rfl)
      (OpenSpec.preRow_of_cond 8 hx (by kernel_rfl) (fun k hk => by cases hk) (by kernel_rfl) (laid_met os))) ?_
  intro W base args ds gs before hval hW _ _ hsz hL _ _
  exact contract H enc W base args ds gs before hval hW hsz hL

theorem said : Rows.JournalReadsSaid :=
  OpenClaim.holds_of_cond 4 Tryd.f4 rfl rfl rfl rfl rfl rfl rfl ⟨rfl, rfl, rfl, rfl, rfl⟩ rfl rfl rfl rfl rfl (by kernel_rfl) Tryd.func4 (by kernel_rfl)
    (of_decide_eq_true (by kernel_rfl)) (by unfold Func.isWrapper; first | (rw [if_pos (by decide +kernel)]; kernel_rfl) | (rw [if_neg (by decide +kernel)]; exact ⟨rfl, rfl⟩))
    (fun os started H enc _ F => by rw [OpenClaim.pre_eq_preRow]; exact lifted os started H enc F)

theorem plain (f : FuncId) (fn : Func) (hf : Tryd.pinned.checked.prog.funcNamed "binnacle/binnaclelaw22.JournalReads" = some f) (hfn : Tryd.pinned.checked.prog.funcs[f]? = some fn) :
    false = Tryd.pinned.checked.prog.looks [] ∧ ∀ (j : Nat) t, fn.params[j]? = some t → Tryd.pinned.checked.prog.wantsStandIn t = false := by
  obtain rfl : f = 4 := Option.some.inj ((show Tryd.prog.funcNamed "binnacle/binnaclelaw22.JournalReads" = some 4 by kernel_rfl).symm.trans hf) |>.symm
  obtain rfl : fn = Tryd.f4 := (Option.some.inj (Tryd.func4.symm.trans hfn)).symm
  refine ⟨by kernel_rfl, fun j t ht => ?_⟩
  rw [Tryd.params4] at ht
  have hm := Array.mem_of_getElem? ht
  have hm' : t = 22 := by simpa using hm
  subst hm'
  exact (show Tryd.prog.wantsStandIn 22 = false by kernel_rfl)

/-- THE CARD -/
theorem card : Rows.JournalReadsCardSaid :=
  Claim7.holds_tied_plain_at .later [] _ _ _ _ said (fun _ h => by cases h) (by kernel_rfl) (fun _ h => by cases h) journalReads_row_tie rfl ⟨rfl, rfl⟩ (by kernel_rfl) rfl plain (by kernel_rfl)
#print axioms card
end Go.Proofs.YtpmjlaiafgbjgaaDoor.journalReads
end
