/- Packets: alike; readers made, reset, asked: walks. -/
import Derived.Test.YtmpcnhiklpahnaaDoorPk14
import Derived.Test.YtmpcnhiklpahnaaDoorPk12
import Derived.Laws.BytesArg
import Derived.Laws.Strings
namespace Go.Proofs.YtmpcnhiklpahnaaDoor
open Go.RowKit

/-- bytes as a string -/
def strB (l : List Nat) : ByteArray := strOfNums (l.map fun (x : Nat) => (x : Int))
theorem run_str (A : Option Addr) (c : Nat) (l : List Nat) (w : World) (hr : SlAt w A (u8v l)) : (convert 26 9 (.slice A l.length c)).run Tryd.prog w = .ok (.string (strB l)) w := by
  rw [run_convert_bytes_string (P := Tryd.prog) w 26 9 5 A l.length c (by kernel_rfl) (by kernel_rfl) (by kernel_rfl)]
  have e : (l.map fun (x : Nat) => (x : Int)).map (Value.int .u8) = u8v l := by unfold u8v; rw [List.map_map]; rfl
  have fin : (Builtin.append_ #[] 0 #[]) = (Builtin.append_ #[] 0 #[]) := rfl
  cases A with
  | none =>
    have h0 : l = [] := by
      cases l with
      | nil => rfl
      | cons x l => obtain ⟨ad, h, _⟩ := hr (by simp [u8v]); cases h
    subst h0
    simp [Conv.bytesToString]
    rfl
  | some ad =>
    have hl : (loadCells ad l.length).run Tryd.prog w = .ok ((l.map fun (x : Nat) => (x : Int)).map (Value.int .u8)).toArray w := by
      have := run_loadCells_list (P := Tryd.prog) w ad (u8v l) (fun j v hj => by
        obtain ⟨ad', e', _, hc⟩ := hr (by cases hu : u8v l with | nil => rw [hu] at hj; simp at hj | cons _ _ => simp)
        obtain rfl := Option.some.inj e'
        exact hc j v hj)
      rw [u8v_len] at this
      rw [e]; exact this
    rw [run_bytesToString w _ l.length c _ hl, foldl_push_bytes]
    simp [strB, strOfNums, ByteArray.empty, ByteArray.emptyWithCapacity]
    rfl
theorem strB_inj {l m : List Nat} (hl : Bytes l) (hm : Bytes m) (h : (strB l).toList = (strB m).toList) : l = m := by
  have h1 : (strB l).data.toList = (strB m).data.toList := by rw [ByteArray.toList_eq, ByteArray.toList_eq] at h; exact h
  unfold strB at h1
  rw [strOfNums_data, strOfNums_data, List.map_map, List.map_map] at h1
  clear h
  induction l generalizing m with
  | nil => cases m with
    | nil => rfl
    | cons y m => simp at h1
  | cons x l ih => cases m with
    | nil => simp at h1
    | cons y m =>
      simp only [List.map_cons, List.cons.injEq, Function.comp] at h1
      have hx := hl x (by simp)
      have hy := hm y (by simp)
      have e : x = y := by
        have := congrArg UInt8.toNat h1.1
        simp at this
        omega
      rw [e, ih (fun z hz => hl z (by simp [hz])) (fun z hz => hm z (by simp [hz])) h1.2]

set_option maxRecDepth 100000 in
set_option maxHeartbeats 1000000 in
set_option maxRecDepth 100000 in
set_option maxHeartbeats 600000 in
theorem bytes_any (A B : Option Addr) (c d : Nat) (l m : List Nat) (hl : Bytes l) (hm : Bytes m) (w : World) (h1 : SlAt w A (u8v l)) (h2 : SlAt w B (u8v m)) : Calls Tryd.prog 18 #[.slice A l.length c, .slice B m.length d] w fun e w' => e = .returned (.bool (decide (l = m))) ∧ w = w' := by
  have c1 := run_str A c l w h1
  have c2 := run_str B d m w h2
  have HL := Lib.hid hl; have HM := Lib.hid hm; clear hl hm h1 h2
  obtain ⟨s1, e1⟩ : ∃ s, s = strB l := ⟨_, rfl⟩
  obtain ⟨s2, e2⟩ : ∃ s, s = strB m := ⟨_, rfl⟩
  rw [← e1] at c1
  rw [← e2] at c2
  have E1 := Lib.hid e1; have E2 := Lib.hid e2; clear e1 e2
  generalize l.length = n1 at c1 ⊢
  generalize m.length = n2 at c2 ⊢
  go_enter Tryd.func18, Tryd.ntmps18
  go_wp2
  go_ret
  have hd : (s1.toList == s2.toList) = decide (l = m) := by
    by_cases h : l = m
    · rw [E1.out, E2.out, h, decide_eq_true rfl]; exact beq_self_eq_true _
    · rw [decide_eq_false h]
      refine beq_eq_false_iff_ne.2 (fun hs => h (strB_inj HL.out HM.out ?_))
      rw [← E1.out, ← E2.out]; exact hs
  exact ⟨by rw [← hd]; rfl, rfl⟩

def sameB (s q t s' q' t' : Int) (l m : List Nat) : Bool := (s == s') && (q == q') && (t == t') && decide (l.map canonD = m.map canonD)

set_option maxRecDepth 100000 in
set_option maxHeartbeats 600000 in
theorem Rsame_any (s q t s' q' t' : Int) (A B : Option Addr) (c d : Nat) (l m : List Nat) (hl : l.length ≤ 1152921504606846976) (hm : m.length ≤ 1152921504606846976) (w : World) (h1 : SlAt w A (f64v l)) (h2 : SlAt w B (f64v m)) : Calls Tryd.prog 25 #[.agg #[.int .i64 s, .int .u32 q, .int .u32 t, .slice A l.length c], .agg #[.int .i64 s', .int .u32 q', .int .u32 t', .slice B m.length d]] w fun e w' => e = .returned (.bool (sameB s q t s' q' t' l m)) ∧ Within w w' := by
  have SL : Hid (∀ wx, Within w wx → Calls Tryd.prog 51 #[.slice A l.length c, .slice B m.length d] wx fun e w' => e = .returned (.bool (decide (l.map canonD = m.map canonD))) ∧ Within wx w') := Lib.hid fun wx hx => Rsamelist_any A B c d l m hl hm wx (h1.of hx) (h2.of hx)
  clear h1 h2 hl hm
  obtain ⟨x, hx⟩ : ∃ x, x = decide (l.map canonD = m.map canonD) := ⟨_, rfl⟩
  rw [← hx] at SL
  unfold sameB
  rw [← hx]
  clear hx
  generalize l.length = n1 at SL ⊢
  generalize m.length = n2 at SL ⊢
  cases e1 : (s == s') <;> cases e2 : (q == q') <;> cases e3 : (t == t')
  all_goals
    go_enter Tryd.func25, Tryd.ntmps25
    go_wp2_with fail
    first
    | (refine (SL.out _ (by repeat (first | with_reducible exact Within.refl _ | with_reducible assumption | with_reducible refine Within.alloc ?_ _ | with_reducible refine Within.drew ?_ | with_reducible refine Within.drewN ?_ _ | with_reducible refine Within.setCell ?_ (by first | (simp; done) | (simp; omega)) _ | with_reducible refine Within.trans ?_ (by assumption)))).mono ?_; rintro e5 w5 ⟨rfl, h5⟩; go_wp2; go_ret; exact ⟨rfl, Within.trans (Within.alloc (Within.alloc (Within.refl _) _) _) h5⟩)
    | (go_ret; exact ⟨rfl, Within.alloc (Within.alloc (Within.refl _) _) _⟩)

set_option maxRecDepth 100000 in
set_option maxHeartbeats 600000 in
theorem New_any (w : World) : Calls Tryd.prog 26 #[] w fun e w' => e = .returned (.pointer (some ⟨w.heap.size, 0, none⟩)) ∧ RdrP w' w.heap.size (w.heap.size + 1) [] 0 0 ∧ Within w w' := by
  go_enter Tryd.func26, Tryd.ntmps26
  go_wp2
  go_ret
  refine ⟨rfl, ⟨none, 0, ⟨?_, ?_, ?_, ?_, fun o => ?_⟩, Nat.le_refl _, SlAt.nil, fun ad e => by cases e⟩, (Within.refl w).alloc _⟩
  all_goals simp

end Go.Proofs.YtmpcnhiklpahnaaDoor
