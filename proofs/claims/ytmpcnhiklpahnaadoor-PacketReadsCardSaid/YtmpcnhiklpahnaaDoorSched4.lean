/- Regions that draw their order, where a call that stands alone writes what was there before: behind it other worlds are spoken of. -/
import Derived.Test.YtmpcnhiklpahnaaDoorSchg
namespace Go.Proofs.YtmpcnhiklpahnaaDoor

section
variable {P : Program} {ops : Array Oper} {Q : Exit → Act → World → Prop} {md : Region.Mode} {S : World → Prop}
variable {p k : Nat} {a : Act} {w : World}
theorem wpAnyG_mono {S S2 : World → Prop} (h : ∀ w, S2 w → S w) {p : Nat} : ∀ (fuel : Nat) (listed : Array Bool) (a : Act) (w : World), wpAnyG P md ops Q S2 p fuel listed a w → wpAnyG P md ops Q S p fuel listed a w
  | 0, _, _, _, h' => h'
  | fuel + 1, _, _, _, h' => ⟨h'.1, fun i hi => wpOp_mono (fun _ _ h'' => ⟨fun hp => h _ (h''.1 hp), wpAnyG_mono h fuel _ _ _ h''.2⟩) (h'.2 i hi)⟩
/-- a schedule whose first operations stand in one order; at a turn other worlds are spoken of from there on -/
inductive Shf where
  | sch (t : Sch) : Shf
  | firm (k : Nat) (r : Shf) : Shf
  | one (k : Nat) (r : Shf) : Shf
  | turn (r : Shf) : Shf
def Shf.long : Shf → Nat → Bool
  | .sch t, n => t.long n
  | .firm _ r, n => decide (0 < n) && r.long (n - 1)
  | .one _ r, n => decide (0 < n) && r.long (n - 1)
  | .turn r, n => r.long n
def Shf.ok (md : Region.Mode) (ops : Array Oper) (p : Nat) : Shf → Array Bool → Bool
  | .sch t, listed => t.ok md ops p listed
  | .firm k r, listed => (Region.ready md ops listed).contains k && Region.free md ops listed k && decide (k < p) && r.ok md ops p (listed.setIfInBounds k true)
  | .one k r, listed => decide (Region.ready md ops listed = [k]) && decide (k < p) && r.ok md ops p (listed.setIfInBounds k true)
  | .turn r, listed => r.ok md ops p listed
def wpShf (P : Program) (ops : Array Oper) (Q : Exit → Act → World → Prop) (p : Nat) : Shf → (World → Prop) → Act → World → Prop
  | .sch t, S, a, w => wpSch P ops Q S p t a w
  | .firm k r, S, a, w => S w ∧ ∃ o v, ops[k]? = some o ∧ YieldsIf P ops S o v a ∧ wpShf P ops Q p r S (a.put o.dst v) w
  | .one k r, S, a, w => wpOp P ops Q k (fun a' w' => S w' ∧ wpShf P ops Q p r S a' w') a w
  | .turn r, S, a, w => ∃ S2 : World → Prop, (∀ w, S2 w → S w) ∧ wpShf P ops Q p r S2 a w
theorem wpAnyG_shf {p : Nat} (hsel : Region.noSelect ops = true) (hQ : ∀ c a d v w, Q (.panic c) (a.put d v) w → Q (.panic c) a w) (hs : Region.sinkB md ops p = true) (hc : Region.chainB md ops p = true) (hn : p < ops.size) :
    ∀ (t : Shf) (S : World → Prop) (n : Nat) (listed : Array Bool) (a : Act) (w : World), t.long n = true → HeadInv md ops p listed → t.ok md ops p listed = true → wpShf P ops Q p t S a w → wpAnyG P md ops Q S p n listed a w := by
  intro t
  induction t with
  | sch t =>
    intro S n listed a w hl inv hB h
    exact wpAnyG_sch hsel hQ hs hc hn t n listed a w hl (.inl inv) hB h
  | firm k r ih =>
    intro S n listed a w hl inv hB h
    simp only [Shf.long, Bool.and_eq_true, decide_eq_true_eq] at hl
    obtain ⟨m, rfl⟩ : ∃ m, n = m + 1 := ⟨n - 1, by omega⟩
    simp only [Shf.ok, Bool.and_eq_true, decide_eq_true_eq] at hB
    obtain ⟨⟨⟨hr, hf⟩, hkp⟩, hB'⟩ := hB
    obtain ⟨hS, o, v, ho, hy, hK⟩ := h
    have hr' : k ∈ Region.ready md ops listed := by simpa using hr
    exact wpAnyG_first ho (Region.noSelect_spec hsel) (fun c a w => hQ c a _ _ w) hs hc hn hkp m listed a w inv (Region.free_spec ho hf) hr' hy hS
      (ih S m _ _ _ hl.2 (inv.set hr' hkp) hB' hK)
  | one k r ih =>
    intro S n listed a w hl inv hB h
    simp only [Shf.long, Bool.and_eq_true, decide_eq_true_eq] at hl
    obtain ⟨m, rfl⟩ : ∃ m, n = m + 1 := ⟨n - 1, by omega⟩
    simp only [Shf.ok, Bool.and_eq_true, decide_eq_true_eq] at hB
    obtain ⟨⟨hr, hd⟩, hB'⟩ := hB
    refine ⟨fun h0 => (by rw [hr] at h0; cases h0), fun i hi => ?_⟩
    have hi' : k ∈ Region.ready md ops listed := by rw [hr]; exact List.mem_singleton.2 rfl
    rw [hr] at hi
    have hik : i = k := by simpa using hi
    subst hik
    exact wpOp_mono (fun a' w' h' => ⟨fun _ => h'.1, ih S m _ _ _ hl.2 (inv.set hi' hd) hB' h'.2⟩) h
  | turn r ih =>
    intro S n listed a w hl inv hB h
    obtain ⟨S2, h2, h3⟩ := h
    exact wpAnyG_mono h2 n listed a w (ih S2 n listed a w hl inv hB h3)
def Shf.okAll (ops : Array Oper) (p : Nat) (t : Shf) : Bool :=
  Region.noSelect ops && decide (p < ops.size) && Region.sinkB .any ops p && Region.chainB .any ops p && t.long ops.size && t.ok .any ops p (Array.replicate ops.size false)
theorem wp_region_shf {id : Nat} {a : Act} {w : World} (S : World → Prop) (F : World → Prop) (p : Nat) (t : Shf) (hm : P.follows .mixedOrders = true) (hB : t.okAll ops p = true) (hF : F w)
    (h : ∀ w0, F w0 → wpShf P ops (OnlyN Q) p t S a w0.drew) : (Code.region id ops true).wp P Q a w := by
  simp only [Shf.okAll, Bool.and_eq_true, decide_eq_true_eq] at hB
  obtain ⟨⟨⟨⟨⟨hsel, hn⟩, hs⟩, hc⟩, hlen⟩, hsc⟩ := hB
  have inv0 : HeadInv .any ops p (Array.replicate ops.size false) :=
    ⟨by simp, fun j oj _ hl => (by rw [getD_replicate_false] at hl; cases hl), fun t _ ht => getD_in (by simpa using ht) (getD_replicate_false _ _)⟩
  exact Code.wp_mono OnlyN.imp (wp_region_any hm (wpAny_of_G _ _ _ _ (wpAnyG_shf (md := .any) hsel (Q := OnlyN Q) (fun c a d v w h => h) hs hc hn t S _ _ a w.drew hlen inv0 hsc (h w hF))))
variable {t : Shf}
theorem shf_firm {o : Oper} {v : Value} (ho : ops.toList[k]? = some o) (hg : o.guard = none) (hS : S w) (h1 : ∀ w, S w → firmAt P o a w v) (h2 : wpShf P ops (OnlyN Q) p t S (a.put o.dst v) w) : wpShf P ops (OnlyN Q) p (.firm k t) S a w :=
  ⟨hS, o, v, (Array.getElem?_toList ▸ ho), .inl ⟨by simp [Region.wanted, hg], fun w hw => (h1 w hw).run⟩, h2⟩
theorem shf_one {o : Oper} (ho : ops.toList[k]? = some o) (hg : o.guard = none) (h : ∀ K : Act → World → Prop, (∀ a' w', S w' → wpShf P ops (OnlyN Q) p t S a' w' → K a' w') → o.wp P a w K (OnlyN Q)) : wpShf P ops (OnlyN Q) p (.one k t) S a w :=
  sch_op ho hg fun K hK => h K fun a' w' hS hr => hK a' w' ⟨hS, hr⟩
theorem shf_sch {u : Sch} (h : wpSch P ops (OnlyN Q) S p u a w) : wpShf P ops (OnlyN Q) p (.sch u) S a w := h
theorem shf_turn (S2 : World → Prop) (h : ∀ w, S2 w → S w) (h2 : wpShf P ops (OnlyN Q) p t S2 a w) : wpShf P ops (OnlyN Q) p (.turn t) S a w := ⟨S2, h, h2⟩
end
end Go.Proofs.YtmpcnhiklpahnaaDoor
