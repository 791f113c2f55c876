/- Regions that draw their order, with up to three operations that may come up next. -/
import Derived.Test.YtifgngmebnjfkaaDoorSched
namespace Go.Proofs.YtifgngmebnjfkaaDoor

section
variable {P : Program} {ops : Array Oper} {Q : Exit → Act → World → Prop} {md : Region.Mode} {S : World → Prop}
variable {p k : Nat} {r : List (Nat × Bool)} {a : Act} {w : World}
/-! schedules with branches: two operations that may come up in either order -/
inductive Sct where
  | nil : Sct
  | firm (k : Nat) (r : Sct) : Sct
  | one (k : Nat) (r : Sct) : Sct
  | two (i : Nat) (r : Sct) (j : Nat) (s : Sct) : Sct
  | three (i : Nat) (r : Sct) (j : Nat) (s : Sct) (l : Nat) (t : Sct) : Sct
def Sct.late : Sct → Bool
  | .nil => true
  | .one _ r => r.late
  | _ => false
def Sct.long : Sct → Nat → Bool
  | .nil, n => decide (n = 0)
  | .firm _ r, n => decide (0 < n) && r.long (n - 1)
  | .one _ r, n => decide (0 < n) && r.long (n - 1)
  | .two _ r _ s, n => decide (0 < n) && r.long (n - 1) && s.long (n - 1)
  | .three _ r _ s _ t, n => decide (0 < n) && r.long (n - 1) && s.long (n - 1) && t.long (n - 1)
def Sct.ok (md : Region.Mode) (ops : Array Oper) (p : Nat) : Sct → Array Bool → Bool
  | .nil, listed => (Region.ready md ops listed).isEmpty
  | .firm k r, listed => (Region.ready md ops listed).contains k && Region.free md ops listed k && decide (k < p) && r.ok md ops p (listed.setIfInBounds k true)
  | .one k r, listed => decide (Region.ready md ops listed = [k]) && (decide (k < p) || r.late) && r.ok md ops p (listed.setIfInBounds k true)
  | .two i r j s, listed => decide (Region.ready md ops listed = [i, j]) && decide (i < p) && decide (j < p) && r.ok md ops p (listed.setIfInBounds i true) && s.ok md ops p (listed.setIfInBounds j true)
  | .three i r j s l t, listed => decide (Region.ready md ops listed = [i, j, l]) && decide (i < p) && decide (j < p) && decide (l < p) && r.ok md ops p (listed.setIfInBounds i true) && s.ok md ops p (listed.setIfInBounds j true) && t.ok md ops p (listed.setIfInBounds l true)
def wpSct (P : Program) (ops : Array Oper) (Q : Exit → Act → World → Prop) (S : World → Prop) (p : Nat) : Sct → Act → World → Prop
  | .nil, a, w => Q .normal a w
  | .firm k r, a, w => S w ∧ ∃ o v, ops[k]? = some o ∧ YieldsIf P ops S o v a ∧ wpSct P ops Q S p r (a.put o.dst v) w
  | .one k r, a, w => wpOp P ops Q k (fun a' w' => (k < p → S w') ∧ wpSct P ops Q S p r a' w') a w
  | .two i r j s, a, w => wpOp P ops Q i (fun a' w' => S w' ∧ wpSct P ops Q S p r a' w') a w ∧ wpOp P ops Q j (fun a' w' => S w' ∧ wpSct P ops Q S p s a' w') a w
  | .three i r j s l t, a, w => wpOp P ops Q i (fun a' w' => S w' ∧ wpSct P ops Q S p r a' w') a w ∧ wpOp P ops Q j (fun a' w' => S w' ∧ wpSct P ops Q S p s a' w') a w ∧ wpOp P ops Q l (fun a' w' => S w' ∧ wpSct P ops Q S p t a' w') a w
theorem wpAnyG_sct {p : Nat} (hsel : Region.noSelect ops = true) (hQ : ∀ c a d v w, Q (.panic c) (a.put d v) w → Q (.panic c) a w) (hs : Region.sinkB md ops p = true) (hc : Region.chainB md ops p = true) (hn : p < ops.size) :
    ∀ (t : Sct) (n : Nat) (listed : Array Bool) (a : Act) (w : World), t.long n = true → (HeadInv md ops p listed ∨ t.late = true) → t.ok md ops p listed = true → wpSct P ops Q S p t a w → wpAnyG P md ops Q S p n listed a w := by
  intro t
  induction t with
  | nil =>
    intro n listed a w hl _ hB h
    simp only [Sct.long, decide_eq_true_eq] at hl
    subst hl
    exact ⟨by simpa [Sct.ok] using hB, h⟩
  | firm k r ih =>
    intro n listed a w hl inv hB h
    simp only [Sct.long, Bool.and_eq_true, decide_eq_true_eq] at hl
    obtain ⟨m, rfl⟩ : ∃ m, n = m + 1 := ⟨n - 1, by omega⟩
    simp only [Sct.ok, Bool.and_eq_true, decide_eq_true_eq] at hB
    obtain ⟨⟨⟨hr, hf⟩, hkp⟩, hB'⟩ := hB
    obtain ⟨hS, o, v, ho, hy, hK⟩ := h
    have inv' : HeadInv md ops p listed := by
      rcases inv with h | h
      · exact h
      · simp [Sct.late] at h
    have hr' : k ∈ Region.ready md ops listed := by simpa using hr
    exact wpAnyG_first ho (Region.noSelect_spec hsel) (fun c a w => hQ c a _ _ w) hs hc hn hkp m listed a w inv' (Region.free_spec ho hf) hr' hy hS
      (ih m _ _ _ hl.2 (.inl (inv'.set hr' hkp)) hB' hK)
  | one k r ih =>
    intro n listed a w hl inv hB h
    simp only [Sct.long, Bool.and_eq_true, decide_eq_true_eq] at hl
    obtain ⟨m, rfl⟩ : ∃ m, n = m + 1 := ⟨n - 1, by omega⟩
    simp only [Sct.ok, Bool.and_eq_true, decide_eq_true_eq, Bool.or_eq_true] at hB
    obtain ⟨⟨hr, hd⟩, hB'⟩ := hB
    refine ⟨fun h0 => (by rw [hr] at h0; cases h0), fun i hi => ?_⟩
    have hi' : k ∈ Region.ready md ops listed := by rw [hr]; exact List.mem_singleton.2 rfl
    rw [hr] at hi
    have hik : i = k := by simpa using hi
    subst hik
    refine wpOp_mono (fun a' w' h' => ⟨h'.1, ih m _ _ _ hl.2 ?_ hB' h'.2⟩) h
    rcases inv with inv | inv
    · rcases hd with hd | hd
      · exact .inl (inv.set hi' hd)
      · exact .inr hd
    · exact .inr inv
  | two i r j s ih1 ih2 =>
    intro n listed a w hl inv hB h
    simp only [Sct.long, Bool.and_eq_true, decide_eq_true_eq] at hl
    obtain ⟨m, rfl⟩ : ∃ m, n = m + 1 := ⟨n - 1, by omega⟩
    simp only [Sct.ok, Bool.and_eq_true, decide_eq_true_eq] at hB
    obtain ⟨⟨⟨⟨hr, hip⟩, hjp⟩, hB1⟩, hB2⟩ := hB
    have inv' : HeadInv md ops p listed := by
      rcases inv with h | h
      · exact h
      · simp [Sct.late] at h
    refine ⟨fun h0 => (by rw [hr] at h0; cases h0), fun q hq => ?_⟩
    have hi' : i ∈ Region.ready md ops listed := by rw [hr]; simp
    have hj' : j ∈ Region.ready md ops listed := by rw [hr]; simp
    rw [hr] at hq
    rcases List.mem_cons.1 hq with e | e
    · subst e
      exact wpOp_mono (fun a' w' h' => ⟨fun _ => h'.1, ih1 m _ _ _ hl.1.2 (.inl (inv'.set hi' hip)) hB1 h'.2⟩) h.1
    · have e' : q = j := by simpa using e
      subst e'
      exact wpOp_mono (fun a' w' h' => ⟨fun _ => h'.1, ih2 m _ _ _ hl.2 (.inl (inv'.set hj' hjp)) hB2 h'.2⟩) h.2
  | three i r j s l t ih1 ih2 ih3 =>
    intro n listed a w hl inv hB h
    simp only [Sct.long, Bool.and_eq_true, decide_eq_true_eq] at hl
    obtain ⟨m, rfl⟩ : ∃ m, n = m + 1 := ⟨n - 1, by omega⟩
    simp only [Sct.ok, Bool.and_eq_true, decide_eq_true_eq] at hB
    obtain ⟨⟨⟨⟨⟨⟨hr, hip⟩, hjp⟩, hlp⟩, hB1⟩, hB2⟩, hB3⟩ := hB
    have inv' : HeadInv md ops p listed := by
      rcases inv with h | h
      · exact h
      · simp [Sct.late] at h
    refine ⟨fun h0 => (by rw [hr] at h0; cases h0), fun q hq => ?_⟩
    have hi' : i ∈ Region.ready md ops listed := by rw [hr]; simp
    have hj' : j ∈ Region.ready md ops listed := by rw [hr]; simp
    have hl' : l ∈ Region.ready md ops listed := by rw [hr]; simp
    rw [hr] at hq
    rcases List.mem_cons.1 hq with e | e
    · subst e
      exact wpOp_mono (fun a' w' h' => ⟨fun _ => h'.1, ih1 m _ _ _ hl.1.1.2 (.inl (inv'.set hi' hip)) hB1 h'.2⟩) h.1
    rcases List.mem_cons.1 e with e | e
    · subst e
      exact wpOp_mono (fun a' w' h' => ⟨fun _ => h'.1, ih2 m _ _ _ hl.1.2 (.inl (inv'.set hj' hjp)) hB2 h'.2⟩) h.2.1
    · have e' : q = l := by simpa using e
      subst e'
      exact wpOp_mono (fun a' w' h' => ⟨fun _ => h'.1, ih3 m _ _ _ hl.2 (.inl (inv'.set hl' hlp)) hB3 h'.2⟩) h.2.2
def Sct.okAll (ops : Array Oper) (p : Nat) (t : Sct) : Bool :=
  Region.noSelect ops && decide (p < ops.size) && Region.sinkB .any ops p && Region.chainB .any ops p && t.long ops.size && t.ok .any ops p (Array.replicate ops.size false)
theorem wp_region_sct {id : Nat} {a : Act} {w : World} (S : World → Prop) (p : Nat) (t : Sct) (hm : P.follows .mixedOrders = true) (hB : t.okAll ops p = true) (hS : S w.drew)
    (h : S w.drew → wpSct P ops (OnlyN Q) S p t a w.drew) : (Code.region id ops true).wp P Q a w := by
  simp only [Sct.okAll, Bool.and_eq_true, decide_eq_true_eq] at hB
  obtain ⟨⟨⟨⟨⟨hsel, hn⟩, hs⟩, hc⟩, hlen⟩, hsc⟩ := hB
  have inv0 : HeadInv .any ops p (Array.replicate ops.size false) :=
    ⟨by simp, fun j oj _ hl => (by rw [getD_replicate_false] at hl; cases hl), fun t _ ht => getD_in (by simpa using ht) (getD_replicate_false _ _)⟩
  exact Code.wp_mono OnlyN.imp (wp_region_any hm (wpAny_of_G _ _ _ _ (wpAnyG_sct (md := .any) (S := S) hsel (Q := OnlyN Q) (fun c a d v w h => h) hs hc hn t _ _ a w.drew hlen (.inl inv0) hsc (h hS))))
variable {t u v : Sct} {i j l : Nat}
theorem sct_nil (h : Q .normal a w) : wpSct P ops (OnlyN Q) S p .nil a w := h
theorem sct_firm {o : Oper} {v : Value} (ho : ops.toList[k]? = some o) (hg : o.guard = none) (hS : S w) (h1 : ∀ w, S w → firmAt P o a w v) (h2 : wpSct P ops (OnlyN Q) S p t (a.put o.dst v) w) : wpSct P ops (OnlyN Q) S p (.firm k t) a w :=
  ⟨hS, o, v, (Array.getElem?_toList ▸ ho), .inl ⟨by simp [Region.wanted, hg], fun w hw => (h1 w hw).run⟩, h2⟩
theorem sct_want {o : Oper} {v : Value} (ho : ops.toList[k]? = some o) (hg : Region.wanted o (yielded ops a.tmps) = true) (hS : S w) (h1 : ∀ w, S w → firmAt P o a w v) (h2 : wpSct P ops (OnlyN Q) S p t (a.put o.dst v) w) : wpSct P ops (OnlyN Q) S p (.firm k t) a w :=
  ⟨hS, o, v, (Array.getElem?_toList ▸ ho), .inl ⟨hg, fun w hw => (h1 w hw).run⟩, h2⟩
theorem sct_skip {o : Oper} (ho : ops.toList[k]? = some o) (hg : Region.wanted o (yielded ops a.tmps) = false) (hS : S w) (h2 : wpSct P ops (OnlyN Q) S p t (a.put o.dst undef) w) : wpSct P ops (OnlyN Q) S p (.firm k t) a w :=
  ⟨hS, o, undef, (Array.getElem?_toList ▸ ho), .inr ⟨hg, rfl⟩, h2⟩
theorem sct_op {o : Oper} {R : Act → World → Prop} (ho : ops.toList[k]? = some o) (hg : o.guard = none) (h : ∀ K : Act → World → Prop, (∀ a' w', R a' w' → K a' w') → o.wp P a w K (OnlyN Q)) : wpOp P ops (OnlyN Q) k R a w := by
  unfold wpOp
  rw [Array.getElem?_toList] at ho
  simp only [ho]
  rw [if_pos (by simp [Region.wanted, hg])]
  exact .inl (h _ fun a' w' hr => hr)
theorem sct_one {o : Oper} (ho : ops.toList[k]? = some o) (hg : o.guard = none) (h : ∀ K : Act → World → Prop, (∀ a' w', (k < p → S w') → wpSct P ops (OnlyN Q) S p t a' w' → K a' w') → o.wp P a w K (OnlyN Q)) : wpSct P ops (OnlyN Q) S p (.one k t) a w :=
  sct_op ho hg fun K hK => h K fun a' w' hS hr => hK a' w' ⟨hS, hr⟩
theorem sct_two {o o' : Oper} (ho : ops.toList[i]? = some o) (hg : o.guard = none) (ho' : ops.toList[j]? = some o') (hg' : o'.guard = none)
    (h : ∀ K : Act → World → Prop, (∀ a' w', S w' → wpSct P ops (OnlyN Q) S p t a' w' → K a' w') → o.wp P a w K (OnlyN Q))
    (h' : ∀ K : Act → World → Prop, (∀ a' w', S w' → wpSct P ops (OnlyN Q) S p u a' w' → K a' w') → o'.wp P a w K (OnlyN Q)) : wpSct P ops (OnlyN Q) S p (.two i t j u) a w :=
  ⟨sct_op ho hg fun K hK => h K fun a' w' hS hr => hK a' w' ⟨hS, hr⟩, sct_op ho' hg' fun K hK => h' K fun a' w' hS hr => hK a' w' ⟨hS, hr⟩⟩
theorem sct_three {o o' o'' : Oper} (ho : ops.toList[i]? = some o) (hg : o.guard = none) (ho' : ops.toList[j]? = some o') (hg' : o'.guard = none) (ho'' : ops.toList[l]? = some o'') (hg'' : o''.guard = none)
    (h : ∀ K : Act → World → Prop, (∀ a' w', S w' → wpSct P ops (OnlyN Q) S p t a' w' → K a' w') → o.wp P a w K (OnlyN Q))
    (h' : ∀ K : Act → World → Prop, (∀ a' w', S w' → wpSct P ops (OnlyN Q) S p u a' w' → K a' w') → o'.wp P a w K (OnlyN Q))
    (h'' : ∀ K : Act → World → Prop, (∀ a' w', S w' → wpSct P ops (OnlyN Q) S p v a' w' → K a' w') → o''.wp P a w K (OnlyN Q)) : wpSct P ops (OnlyN Q) S p (.three i t j u l v) a w :=
  ⟨sct_op ho hg fun K hK => h K fun a' w' hS hr => hK a' w' ⟨hS, hr⟩, sct_op ho' hg' fun K hK => h' K fun a' w' hS hr => hK a' w' ⟨hS, hr⟩, sct_op ho'' hg'' fun K hK => h'' K fun a' w' hS hr => hK a' w' ⟨hS, hr⟩⟩
theorem wp_region_sctW {id : Nat} {a : Act} {w : World} (p : Nat) (t : Sct) (hm : P.follows .mixedOrders = true) (hB : t.okAll ops p = true)
    (h : wpSct P ops (OnlyN Q) (Within w) p t a w.drew) : (Code.region id ops true).wp P Q a w :=
  wp_region_sct (Within w) p t hm hB (Within.refl w).drew fun _ => h
/-- the world under a name, with what is known of it -/
theorem wp_region_sctG {id : Nat} {a : Act} {w : World} (F : World → Prop) (p : Nat) (t : Sct) (hm : P.follows .mixedOrders = true) (hB : t.okAll ops p = true) (hF : F w)
    (h : ∀ w0, F w0 → wpSct P ops (OnlyN Q) (Within w0) p t a w0.drew) : (Code.region id ops true).wp P Q a w := wp_region_sctW p t hm hB (h w hF)
end
end Go.Proofs.YtifgngmebnjfkaaDoor
