/- Regions that draw their order: guarded operations that stand alone. -/
import Derived.Test.YtmpcnhiklpahnaaDoorSched
import Derived.Deep.DeepCutAuto
namespace Go.Proofs.YtmpcnhiklpahnaaDoor
open Go.RowKit

attribute [go_sem] firmAt firmUpon
section
variable {P : Program} {ops : Array Oper} {Q : Exit → Act → World → Prop} {S : World → Prop} {p k : Nat} {a : Act} {w : World} {t : Sch}
theorem sch_one_want {o : Oper} (ho : ops.toList[k]? = some o) (hg : Region.wanted o (yielded ops a.tmps) = true) (h : ∀ K : Act → World → Prop, (∀ a' w', (k < p → S w') → wpSch P ops (OnlyN Q) S p t a' w' → K a' w') → o.wp P a w K (OnlyN Q)) : wpSch P ops (OnlyN Q) S p (.one k t) a w := by
  show wpOp P ops (OnlyN Q) k _ a w
  unfold wpOp
  rw [Array.getElem?_toList] at ho
  simp only [ho]
  rw [if_pos hg]
  exact .inl (h _ fun a' w' hS hr => ⟨hS, hr⟩)
theorem sch_one_skip {o : Oper} (ho : ops.toList[k]? = some o) (hg : Region.wanted o (yielded ops a.tmps) = false) (hS : S w) (h2 : wpSch P ops (OnlyN Q) S p t (a.put o.dst undef) w) : wpSch P ops (OnlyN Q) S p (.one k t) a w := by
  show wpOp P ops (OnlyN Q) k _ a w
  unfold wpOp
  rw [Array.getElem?_toList] at ho
  simp only [ho]
  rw [if_neg (by rw [hg]; decide)]
  exact ⟨fun _ => hS, h2⟩
/-- the same where what lies below a block stays as it is -/
theorem wp_region_schB {Q : Exit → Act → World → Prop} {id : Nat} {a : Act} {w : World} (base : Nat) (F : World → Prop) (p : Nat) (t : Sch) (hm : P.follows .mixedOrders = true) (hB : t.okAll ops p = true) (hF : F w)
    (h : ∀ w0, F w0 → wpSch P ops (OnlyN Q) (Below base w0) p t a w0.drew) : (Code.region id ops true).wp P Q a w := wp_region_sch (Below base w) p t hm hB ((Below.refl base w).drew) fun _ => h w hF
end
end Go.Proofs.YtmpcnhiklpahnaaDoor
