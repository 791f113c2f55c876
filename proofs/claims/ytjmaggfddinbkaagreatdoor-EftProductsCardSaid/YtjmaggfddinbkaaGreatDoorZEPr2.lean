/- What the law's walk rests on, part 2: contracts of functions and plain facts. -/
import Derived.Test.YtjmaggfddinbkaaGreatDoorRows
import Derived.WalkKit
import Derived.WalkSpells
import Derived.WalkLawsBesides
import Derived.BigQuiet
import Derived.Lib.Hide
import Derived.Deep.OwnRows
import Derived.OwnWalk
import Derived.LoopTactic
import Derived.Outline
import Derived.IntWalk
import Derived.OrdersHeld
import Derived.StillTail
import Derived.Deep.RegionHeld3
import Derived.Maps.AppendAt
import Derived.Deep.QuietTactic
import Derived.Deep.DeepCutAuto
import Derived.Shelf.Bits.Mul64
import Derived.Laws.Externs
import Derived.Deep.RegionWith
import Ieee.Arith
import Derived.Lib.TrailingZeros
import Derived.Lib.BitFns
import Derived.Lib.Strings
import Derived.Lib.Slices
import Derived.Lib.Small
import Derived.Lib.Walk
import Derived.Deep.AppendLies
import Derived.Deep.Draws
import Derived.Laws.OwnMore
import Derived.ProofKit
import Derived.OpenShut
import Derived.ShutString
import Derived.ChangeOld
import Derived.Below
import Derived.Deep.DeepHandedRow
import Derived.Lib.LaidTab
import Derived.Test.YtjmaggfddinbkaaGreatDoorZEPr1
set_option linter.unusedVariables false
set_option linter.unusedSimpArgs false
section
namespace Go.Proofs.YtjmaggfddinbkaaGreatDoor.P64
open Go.RowKit
attribute [go_sem] firmAt firmUpon
def uv (l : List Nat) : List Value := l.map fun (x : Nat) => .int .u64 (x : Int)
theorem add_zero_off (g j : Nat) : (⟨g, 0, none⟩ : Addr).add j = ⟨g, j, none⟩ := by
  unfold Addr.add; split
  · rename_i h; subst h; rfl
  · simp
theorem uv_at (l : List Nat) {j : Nat} {u : Value} (h : (uv l)[j]? = some u) : j < l.length ∧ u = .int .u64 ((l.getD j 0 : Nat) : Int) := by
  unfold uv at h
  rw [List.getElem?_map] at h
  by_cases hj : j < l.length
  · rw [List.getElem?_eq_getElem hj] at h
    refine ⟨hj, ?_⟩
    simp at h
    rw [← h]; simp [List.getD_eq_getElem?_getD, hj]
  · rw [List.getElem?_eq_none (by omega)] at h; simp at h
theorem rowAt_of_owns {w : World} {base n : Nat} {v : Value} {l : List Nat} (h : w.ownsRow base 23 1 v n (uv l)) : ∃ A c, v = .slice A l.length c ∧ l.length ≤ c ∧ RowAt w A l := by
  have hlen : l.length = n := by have := h.1; simpa [uv] using this
  subst hlen
  rcases h.2 with ⟨rfl, h0⟩ | ⟨g, cap, cur, rfl, _, hb, hc, _, hsz, htk⟩
  · refine ⟨none, 0, by rw [h0], by omega, ?_⟩
    intro hp; omega
  · refine ⟨_, _, rfl, hc, fun _ => ⟨g, cur.size, fun i => (cur[i]?).getD undef, rfl, by omega, ⟨cur, hb, rfl, fun i hi => by simp [hi]⟩, fun i hi => ?_⟩⟩
    have : (cur.toList.take (l.length * 1))[i]? = (uv l)[i]? := by rw [htk]
    rw [List.getElem?_take, if_pos (by omega), Array.getElem?_toList] at this
    show (cur[i]?).getD undef = _
    rw [this]
    unfold uv
    simp [List.getD_eq_getElem?_getD, hi]
theorem run_append_nil_nil {P : Program} (w : World) (t ty e : TypeId) (i : TypeInfo) (ht : P.underlying t = some (.slice e)) (hi : P.info? e = some i) (c : Nat) : (Builtin.append_ #[t, t] ty #[.slice none 0 0, .slice none 0 c]).run P w = .ok (.slice none 0 0) w := by
  simp [Builtin.append_, run_underlying ht, sizeOf, typeInfo, hi, Builtin.lenOf, Builtin.firstCells]
theorem run_copy {w : World} (A : Option Addr) (l : List Nat) (c : Nat) (hr : RowAt w A l) (hl : l.length ≤ 3000000) :
    ∃ A' c' w', (Builtin.append_ #[119, 119] 119 #[.slice none 0 0, .slice A l.length c]).run Tryz.prog w = .ok (.slice A' l.length c') w' ∧ l.length ≤ c' ∧ RowAt w' A' l ∧ Within w w' := by
  obtain ⟨i0, hi0, hz0, hz1, hz2⟩ := info_parts infoU64
  have hU : Tryz.prog.underlying 119 = some (.slice 23) := by kernel_rfl
  rcases A with _ | ad
  · have h0 : l = [] := by
      rcases Nat.eq_zero_or_pos l.length with h | h
      · exact List.eq_nil_of_length_eq_zero h
      · obtain ⟨g, _, _, e, _⟩ := hr h; cases e
    subst h0
    exact ⟨none, 0, w, run_append_nil_nil w _ _ _ i0 hU hi0 c, by simp, RowAt.nil, Within.refl _⟩
  · have hcells : ∀ j u, (uv l)[j]? = some u → w.cell? (ad.add j) = some u := by
      intro j u hu
      obtain ⟨hj, rfl⟩ := uv_at l hu
      obtain ⟨g, e, _, hc⟩ := hr.cell hj
      have e' := Option.some.inj e
      rw [e', add_zero_off]; exact hc
    obtain ⟨v', w', hrun, h2, h3, _, _⟩ := run_append_own_at (P := Tryz.prog) w w.heap.size 119 119 23 i0 (.int .u64 0) 1 8 hU hi0 hz0 hz1 hz2 rfl (by decide) (.slice none 0 0) 0 [] (World.ownsRow_nil _ _ _ _) ad l.length c (uv l)
      (by simp [uv]) hcells (by intro u hu; obtain ⟨x, _, rfl⟩ := List.mem_map.1 hu; rfl) (by unfold maxLen; omega) (by omega) (Nat.le_refl _)
    rw [List.nil_append] at h2
    obtain ⟨A', c', rfl, hc, hr'⟩ := rowAt_of_owns h2
    refine ⟨A', c', w', hrun, hc, hr', ⟨h3.os, h3.tape, h3.output, h3.size, fun k hk => h3.block k hk (by intro e; cases e)⟩⟩
theorem wp_copy {w : World} {o : Oper} {a : Act} {K : Act → World → Prop} {Q : Exit → Act → World → Prop} (s x : Operand) (A : Option Addr) (l : List Nat) (c : Nat)
    (ho : o.op = .call { callee := .builtin .append, args := #[s, x], argTypes := #[119, 119] }) (ht : o.type = 119) (hs : a.eval s = .slice none 0 0) (hx : a.eval x = .slice A l.length c) (hr : RowAt w A l) (hl : l.length ≤ 3000000)
    (h : ∀ A' c' w', l.length ≤ c' → RowAt w' A' l → Within w w' → K (a.put o.dst (.slice A' l.length c')) w') : o.wp Tryz.prog a w K Q := by
  obtain ⟨A', c', w', hrun, h1, h2, h3⟩ := run_copy A l c hr hl
  rw [← ht] at hrun
  unfold Oper.wp execOp
  simp only [ho, resolve, invoke, builtin, Sem.run_bind, Sem.run_pure, Result.andThen_ok, List.map_toArray, List.map_cons, List.map_nil, hs, hx, ht] at hrun ⊢
  rw [hrun]
  exact h A' c' w' h1 h2 h3
set_option maxRecDepth 100000 in
set_option maxHeartbeats 600000 in
theorem Pclone (n : Nat) (A : Option Addr) (c : Nat) (hl : (dg n).length ≤ 3000000) (w : World) (hr : RowAt w A (dg n)) : Calls Tryz.prog 155 #[.slice A (dg n).length c] w (RetW w n) := by
  have HR := Lib.hid hr; clear hr
  obtain ⟨l, hle⟩ : ∃ l, l = dg n := ⟨_, rfl⟩
  rw [← hle] at hl HR ⊢
  go_enter Tryz.func155, Tryz.ntmps155
  go_wp2_with (refine wpList_plain rfl fun K hK => ?_; refine wp_copy (.const (.slice none 0 0)) (.tmp 3) A l c rfl rfl rfl rfl HR.out hl ?_; intro A' c' w2 hc' hr' hb'; refine hK _ _ ?_)
  go_ret
  subst hle
  exact ⟨A', c', rfl, hc', hr', hb'⟩
def TimesOut (W : World) (g : Nat) (la lb : List Nat) (iv : Value) (wr : World) : Prop :=
  ∃ (i : Nat) (o : List Nat), i ≤ la.length ∧ iv = .int .i64 (i : Int) ∧ o.length = la.length + lb.length ∧ Words o ∧ OwnW wr g o ∧ lo o (i + lb.length) = lo la i * wval lb ∧ Within W wr
def TimesIn (W : World) (g : Nat) (lb o0 : List Nat) (x i : Nat) (cv kv : Value) (wr : World) : Prop :=
  ∃ (k c : Nat) (o : List Nat), k ≤ lb.length ∧ c < 18446744073709551616 ∧ cv = .int .u64 (c : Int) ∧ kv = .int .i64 (k : Int) ∧ o.length = o0.length ∧ Words o ∧ OwnW wr g o ∧ lo o (i + k) + 18446744073709551616 ^ (i + k) * c = lo o0 (i + k) + 18446744073709551616 ^ i * (x * lo lb k) ∧ (∀ j, i + k ≤ j → o.getD j 0 = o0.getD j 0) ∧ Within W wr
theorem TimesIn.step {W wr : World} {g : Nat} {lb o0 o : List Nat} {x i k c y z : Nat} (u v q : Int) (hn : i + k < o.length) (hk : k < lb.length) (hc : c < 18446744073709551616) (ho : o.length = o0.length) (hwo : Words o) (hown : OwnW wr g o)
    (hval : lo o (i + k) + 18446744073709551616 ^ (i + k) * c = lo o0 (i + k) + 18446744073709551616 ^ i * (x * lo lb k)) (hrest : ∀ j, i + k ≤ j → o.getD j 0 = o0.getD j 0) (hin : Within W wr) (hg : W.heap.size ≤ g)
    (hx : x < 18446744073709551616) (hy : y = lb.getD k 0) (hy2 : y < 18446744073709551616) (hz : z = o.getD (i + k) 0) (hz2 : z < 18446744073709551616)
    (hu : u = (((x * y + z + c) / 18446744073709551616 : Nat) : Int)) (hv : v = (((x * y + z + c) % 18446744073709551616 : Nat) : Int)) (hq : q = ((k + 1 : Nat) : Int)) :
    TimesIn W g lb o0 x i (.int .u64 u) (.int .i64 q) (wr.setCell ⟨g, i + k, none⟩ (.int .u64 v)) := by
  subst hu hv hq
  have hm := word_mul hx hy2
  refine ⟨k + 1, (x * y + z + c) / 18446744073709551616, o.set (i + k) ((x * y + z + c) % 18446744073709551616), by omega, by omega, rfl, rfl, by rw [List.length_set]; exact ho, hwo.set _ _ (by omega), OwnW.set hown _ _ hn, ?_, ?_, hin.setCell hg _⟩
  · rw [show i + (k + 1) = i + k + 1 by omega, lo_set_succ _ _ _ hn, lo_succ o0, lo_succ lb, ← hy, ← hrest (i + k) (Nat.le_refl _), ← hz, Nat.pow_succ]
    have := times_step (P := 18446744073709551616 ^ (i + k)) (Q := 18446744073709551616 ^ i * (x * (18446744073709551616 ^ k * y))) (x := x) (y := y) (z := z) hval _ rfl (by rw [Nat.pow_add, Nat.mul_assoc]; congr 1; rw [Nat.mul_left_comm])
    rw [Nat.mul_add x, Nat.mul_add]
    exact this
  · intro j hj
    rw [lset_ne _ _ _ _ (by omega)]
    exact hrest j (by omega)
set_option maxRecDepth 100000 in
set_option maxHeartbeats 600000 in
theorem Ptimes_nil (n m : Nat) (A Bv : Option Addr) (ca cb : Nat) (h : n = 0 ∨ m = 0) (w : World) : Calls Tryz.prog 152 #[.slice A n ca, .slice Bv m cb] w (RetW w 0) := by
  rcases h with h | h
  · subst h
    go_enter Tryz.func152, Tryz.ntmps152
    go_wp2
    go_ret
    exact ⟨none, 0, by rw [dg_zero]; rfl, by rw [dg_zero]; exact Nat.le_refl _, by rw [dg_zero]; exact RowAt.nil, Within.refl _⟩
  · subst h
    rcases n with _ | n
    · go_enter Tryz.func152, Tryz.ntmps152
      go_wp2
      go_ret
      exact ⟨none, 0, by rw [dg_zero]; rfl, by rw [dg_zero]; exact Nat.le_refl _, by rw [dg_zero]; exact RowAt.nil, Within.refl _⟩
    · have d1 : (((n + 1 : Nat) : Int) == 0) = false := beq_eq_false_iff_ne.2 (by omega)
      have d2 : ((n : Int) + 1 == 0) = false := beq_eq_false_iff_ne.2 (by omega)
      go_enter Tryz.func152, Tryz.ntmps152
      go_wp2
      go_ret
      exact ⟨none, 0, by rw [dg_zero]; rfl, by rw [dg_zero]; exact Nat.le_refl _, by rw [dg_zero]; exact RowAt.nil, Within.refl _⟩
set_option maxRecDepth 100000 in
set_option maxHeartbeats 1000000 in
theorem Ptimes0 (la lb : List Nat) (A Bv : Option Addr) (ca cb : Nat) (hwa : Words la) (hwb : Words lb) (hla : la.length ≤ 700000) (hlb : lb.length ≤ 700000) (ha0 : 0 < la.length) (hb0 : 0 < lb.length) (w : World) (hra : RowAt w A la) (hrb : RowAt w Bv lb) :
    Calls Tryz.prog 152 #[.slice A la.length ca, .slice Bv lb.length cb] w (RetW w (wval la * wval lb)) := by
  have hmk := run_make_row' (P := Tryz.prog) 119 23 (.int .u64 0) 8 (by kernel_rfl) infoU64 rfl .i64 .i64 (la.length + lb.length) (by omega) (by omega)
  rw [show ((la.length + lb.length : Nat) : Int) = (la.length : Int) + (lb.length : Int) by omega] at hmk
  have HWA := Lib.hid hwa; have HWB := Lib.hid hwb; have HRA := Lib.hid hra; have HRB := Lib.hid hrb; clear hwa hwb hra hrb
  have d1 : ((la.length : Int) == 0) = false := beq_eq_false_iff_ne.2 (by omega)
  have d2 : ((lb.length : Int) == 0) = false := beq_eq_false_iff_ne.2 (by omega)
  have HM := OwnW.made w (la.length + lb.length)
  go_enter Tryz.func152, Tryz.ntmps152
  go_wp2
  go_loopw [27] (fun iv wr => TimesOut w w.heap.size la lb iv wr) (fun iv _ => la.length - (intOf iv).toNat)
  case atStart => exact ⟨0, _, Nat.zero_le _, rfl, by simp, Words.zeros _, HM, by
    rw [lo_zero, lo, show (List.replicate (la.length + lb.length) 0).take (0 + lb.length) = List.replicate (0 + lb.length) 0 by rw [List.take_replicate]; congr 1; omega, wval_zeros]; simp, (Within.refl w).alloc _⟩
  case round =>
    obtain ⟨i, o, hi, rfl, ho, hwo, hown, hval, hin⟩ := hrel
    have HV := Lib.hid hval; have HO := Lib.hid ho; have HWO := Lib.hid hwo; clear hval ho hwo
    rcases Nat.lt_or_ge i la.length with hlt | hlt
    · obtain ⟨ga, hga0, hga, hca⟩ := (HRA.out.of hin).cell hlt
      subst hga0
      obtain ⟨x, hxe⟩ : ∃ x, x = la.getD i 0 := ⟨_, rfl⟩
      have hx : x < 18446744073709551616 := by rw [hxe]; exact HWA.out.getD _
      rw [← hxe] at hca
      have HXE := Lib.hid hxe; clear hxe
      go_wp2
      go_loopw [8, 34] (fun cv kv wr => TimesIn w w.heap.size lb o x i cv kv wr) (fun _ kv _ => lb.length - (intOf kv).toNat)
      case atStart => exact ⟨0, 0, o, Nat.zero_le _, by decide, rfl, rfl, rfl, HWO.out, hown, by simp [lo_zero], fun _ _ => rfl, hin⟩
      case round =>
        obtain ⟨k, c, o1, hk, hc, rfl, rfl, ho1, hwo1, hown1, hval1, hrest, hin1⟩ := hrel
        have HV1 := Lib.hid hval1; have HO1 := Lib.hid (ho1.trans HO.out); have HO2 := Lib.hid ho1; have HWO1 := Lib.hid hwo1; have HR := Lib.hid hrest; clear hval1 ho1 hwo1 hrest
        rcases Nat.lt_or_ge k lb.length with hlk | hlk
        · obtain ⟨gb, hgb0, hgb, hcb⟩ := (HRB.out.of hin1).cell hlk
          subst hgb0
          obtain ⟨y, hye⟩ : ∃ y, y = lb.getD k 0 := ⟨_, rfl⟩
          have hy : y < 18446744073709551616 := by rw [hye]; exact HWB.out.getD _
          rw [← hye] at hcb
          have HYE := Lib.hid hye; clear hye
          have hco := hown1.cell (i := i + k) (by rw [HO1.out]; omega)
          have hfo := hown1.frozen (i + k)
          obtain ⟨z, hze⟩ : ∃ z, z = o1.getD (i + k) 0 := ⟨_, rfl⟩
          have hz : z < 18446744073709551616 := by rw [hze]; exact HWO1.out.getD _
          rw [← hze] at hco
          have HST := Lib.hid (fun (u v q : Int) => TimesIn.step (x := x) (y := y) (z := z) u v q (by rw [HO1.out]; omega) hlk hc HO2.out HWO1.out hown1 HV1.out HR.out hin1 (Nat.le_refl _) hx HYE.out hy hze hz)
          clear hze
          have e4 : IntKind.i64.wrap ((i : Int) + k) = (i : Int) + k := IntWalk.i64_in _ (by omega)
          have e5 : ((i : Int) + k).toNat = i + k := by omega
          have CF := Lib.hid (fun w => Pfold x y z c (x * y + z + c) hx hy hz hc rfl w)
          generalize x * y + z + c = p at CF HST
          go_wp2_with fail
          refine (CF.out _).mono ?_; rintro e1 w1 ⟨rfl, rfl⟩
          go_wp2
          go_roundw
          case rel => exact HST.out _ _ _ (by omega) (by omega) (by omega)
          case measure => simp [intOf]; omega
        · obtain rfl : k = lb.length := by omega
          have hco := hown1.cell (i := i + lb.length) (by rw [HO1.out]; omega)
          have hfo := hown1.frozen (i + lb.length)
          have HCC := Lib.hid hc
          go_wp2
          go_roundw
          case rel =>
            refine ⟨i + 1, o1.set (i + lb.length) c, by omega, by go_num, by rw [List.length_set]; exact HO1.out, HWO1.out.set _ _ HCC.out, ?_, ?_, hin1.setCell (Nat.le_refl _) _⟩
            · have := hown1.set (i + lb.length) c (by rw [HO1.out]; omega)
              exact this
            · rw [show i + 1 + lb.length = i + lb.length + 1 by omega, lo_set_succ _ _ _ (by rw [HO1.out]; omega), HV1.out, HV.out, lo_succ la, ← HXE.out, lo_all lb (Nat.le_refl _), Nat.add_mul, Nat.mul_assoc]
          case measure => simp [intOf]; omega
    · obtain rfl : i = la.length := by omega
      have CT := Lib.hid (Pnorm o (some ⟨w.heap.size, 0, none⟩) (la.length + lb.length) HWO.out (by rw [HO.out]; exact Nat.le_refl _) (by rw [HO.out]; omega) _ hown.at)
      rw [HO.out] at CT
      go_wp2_with fail
      refine (CT.out).mono ?_; rintro e1 w1 ⟨rfl, rfl⟩
      go_wp2
      go_ret
      refine retW_cut hown.at HWO.out (by rw [HO.out]; exact Nat.le_refl _) hin ?_
      rw [← lo_all o (Nat.le_of_eq HO.out), HV.out, lo_all _ (Nat.le_refl _)]
theorem Ptimes (a b : Nat) (A Bv : Option Addr) (ca cb : Nat) (ha : (dg a).length ≤ 700000) (hb : (dg b).length ≤ 700000) (w : World) (hra : RowAt w A (dg a)) (hrb : RowAt w Bv (dg b)) :
    Calls Tryz.prog 152 #[.slice A (dg a).length ca, .slice Bv (dg b).length cb] w (RetW w (a * b)) := by
  by_cases h : a = 0 ∨ b = 0
  · have e : a * b = 0 := by rcases h with h | h <;> subst h <;> simp
    rw [e]
    exact Ptimes_nil _ _ A Bv ca cb (by rcases h with h | h <;> subst h <;> simp [dg_zero]) w
  · have h1 : a ≠ 0 := fun e => h (.inl e)
    have h2 : b ≠ 0 := fun e => h (.inr e)
    have := Ptimes0 (dg a) (dg b) A Bv ca cb (words_dg a) (words_dg b) ha hb (dg_len_pos h1) (dg_len_pos h2) w hra hrb
    rw [wval_dg, wval_dg] at this
    exact this
end Go.Proofs.YtjmaggfddinbkaaGreatDoor.P64
end

section
namespace Go.Proofs.YtjmaggfddinbkaaGreatDoor.P64
open Go.RowKit
theorem repl_getD (n j : Nat) : (List.replicate n 0).getD j 0 = 0 := by
  rw [List.getD_eq_getElem?_getD, List.getElem?_replicate]
  by_cases h : j < n
  · rw [if_pos h]; rfl
  · rw [if_neg h]; rfl
def LeftRel (W : World) (g : Nat) (la : List Nat) (W0 S0 : Nat) (iv : Value) (wr : World) : Prop :=
  ∃ (k : Nat) (o : List Nat), k ≤ la.length ∧ iv = .int .i64 (k : Int) ∧ o.length = W0 + la.length + 1 ∧ Words o ∧ OwnW wr g o ∧ lo o (W0 + k + 1) = lo la k * 2 ^ S0 * 18446744073709551616 ^ W0 ∧ o.getD (W0 + k) 0 < 2 ^ S0 ∧ (∀ j, W0 + k < j → o.getD j 0 = 0) ∧ Within W wr
theorem low_lt {x S0 z : Nat} (hS : S0 < 64) (hz : z < 2 ^ S0) : z + x * 2 ^ S0 % 18446744073709551616 < 18446744073709551616 := by
  rw [left_low hS]
  have h1 : x % 2 ^ (64 - S0) < 2 ^ (64 - S0) := Nat.mod_lt _ (Nat.two_pow_pos _)
  have h2 : (x % 2 ^ (64 - S0) + 1) * 2 ^ S0 ≤ 2 ^ (64 - S0) * 2 ^ S0 := Nat.mul_le_mul_right _ h1
  rw [← Nat.pow_add, show 64 - S0 + S0 = 64 by omega, Nat.add_mul] at h2
  omega
theorem low_or {x S0 z : Nat} (hS : S0 < 64) (hz : z < 2 ^ S0) : bits .or .u64 (z : Int) ((x * 2 ^ S0 % 18446744073709551616 : Nat) : Int) = ((z + x * 2 ^ S0 % 18446744073709551616 : Nat) : Int) := by
  have h1 := low_lt (x := x) hS hz
  rw [u64_or_nat _ _ (by omega) (by omega), Nat.or_comm, nat_join S0 _ _ (by rw [left_low hS, Nat.mul_mod_left]) hz, Nat.add_comm]
theorem LeftRel.step {W wr : World} {g : Nat} {la o : List Nat} {W0 S0 k x z : Nat} (u v q : Int) (hk : k < la.length) (hS : S0 < 64) (ho : o.length = W0 + la.length + 1) (hwo : Words o) (hown : OwnW wr g o)
    (hval : lo o (W0 + k + 1) = lo la k * 2 ^ S0 * 18446744073709551616 ^ W0) (hlow : z < 2 ^ S0) (hzero : ∀ j, W0 + k < j → o.getD j 0 = 0) (hin : Within W wr)
    (hx : x = la.getD k 0) (hz : z = o.getD (W0 + k) 0) (hx2 : x < 18446744073709551616) (hg : W.heap.size ≤ g) (hu : u = ((z + x * 2 ^ S0 % 18446744073709551616 : Nat) : Int)) (hv : v = ((x * 2 ^ S0 / 18446744073709551616 : Nat) : Int)) (hq : q = ((k + 1 : Nat) : Int)) :
    LeftRel W g la W0 S0 (.int .i64 q) ((wr.setCell ⟨g, W0 + k, none⟩ (.int .u64 u)).setCell ⟨g, W0 + k + 1, none⟩ (.int .u64 v)) := by
  subst hu hv hq
  have hh := left_high (m := x) (s := S0) hx2
  have h32 : 2 ^ S0 ≤ 18446744073709551616 := by rw [show (18446744073709551616 : Nat) = 2 ^ 64 from rfl]; exact Nat.pow_le_pow_right (by decide) (by omega)
  have hl := low_lt (x := x) hS hlow
  generalize hL : x * 2 ^ S0 % 18446744073709551616 = L at *
  generalize hH : x * 2 ^ S0 / 18446744073709551616 = H at *
  have ho1 : (o.set (W0 + k) (z + L)).length = W0 + la.length + 1 := by rw [List.length_set]; exact ho
  refine ⟨k + 1, (o.set (W0 + k) (z + L)).set (W0 + k + 1) H, by omega, rfl, by rw [List.length_set]; exact ho1, (hwo.set _ _ hl).set _ _ (by omega), (hown.set _ _ (by omega)).set _ _ (by omega), ?_, ?_, ?_, (hin.setCell hg _).setCell hg _⟩
  · rw [show W0 + (k + 1) + 1 = W0 + k + 1 + 1 by omega, lo_set_succ _ _ _ (by omega), lo_set_succ _ _ _ (by omega), lo_succ la, ← hx]
    rw [lo_succ, ← hz] at hval
    have := left_step (P := 18446744073709551616 ^ (W0 + k)) (t := x * 2 ^ S0) hval
    rw [hL, hH] at this
    rw [Nat.pow_succ, this, Nat.add_mul, Nat.add_mul, Nat.pow_add]
    congr 1
    rw [Nat.mul_comm (18446744073709551616 ^ W0), Nat.mul_assoc, Nat.mul_assoc, Nat.mul_assoc, Nat.mul_comm (18446744073709551616 ^ W0), Nat.mul_assoc]
  · rw [show W0 + (k + 1) = W0 + k + 1 by omega, getD_set_eq _ _ _ (by omega)]; exact hh
  · intro j hj
    rw [lset_ne _ _ _ _ (by omega), lset_ne _ _ _ _ (by omega)]
    exact hzero j (by omega)
set_option maxRecDepth 100000 in
set_option maxHeartbeats 600000 in
theorem Pleft_pos (la : List Nat) (A : Option Addr) (ca n W0 S0 : Nat) (hwa : Words la) (hla : la.length ≤ 500000) (h0 : 0 < la.length) (hn : n = 64 * W0 + S0) (hS : S0 < 64) (hW : W0 ≤ 500000) (w : World) (hra : RowAt w A la) :
    Calls Tryz.prog 156 #[.slice A la.length ca, .int .u64 (n : Int)] w (RetW w (wval la * 2 ^ n)) := by
  have hmk := run_make_row' (P := Tryz.prog) 119 23 (.int .u64 0) 8 (by kernel_rfl) infoU64 rfl .i64 .i64 (W0 + la.length + 1) (by omega) (by omega)
  rw [show ((W0 + la.length + 1 : Nat) : Int) = (W0 : Int) + (la.length : Int) + 1 by omega] at hmk
  have HWA := Lib.hid hwa; have HRA := Lib.hid hra; clear hwa hra
  have hq : (n : Int) / 64 = (W0 : Int) := by omega
  have hr : (n : Int) % 64 = (S0 : Int) := by omega
  have d0 : ((la.length : Int) == 0) = false := beq_eq_false_iff_ne.2 (by omega)
  have HN := Lib.hid hn; clear hn
  have HM := OwnW.made w (W0 + la.length + 1)
  go_enter Tryz.func156, Tryz.ntmps156
  go_wp2
  go_loopw [26] (fun iv wr => LeftRel w w.heap.size la W0 S0 iv wr) (fun iv _ => la.length - (intOf iv).toNat)
  case atStart => exact ⟨0, _, Nat.zero_le _, rfl, by simp, Words.zeros _, HM, by
    rw [lo_zero, lo]
    rw [show (List.replicate (W0 + la.length + 1) 0).take (W0 + 0 + 1) = List.replicate (W0 + 0 + 1) 0 by rw [List.take_replicate]; congr 1; omega, wval_zeros]; simp, by
    rw [repl_getD]; exact Nat.two_pow_pos _, fun j _ => repl_getD _ _, (Within.refl w).alloc _⟩
  case round =>
    obtain ⟨k, o, hk, rfl, ho, hwo, hown, hval, hlow, hzero, hin⟩ := hrel
    have HV := Lib.hid hval; have HO := Lib.hid ho; have HWO := Lib.hid hwo; have HZ := Lib.hid hzero; clear hval ho hwo hzero
    rcases Nat.lt_or_ge k la.length with hlt | hlt
    · obtain ⟨ga, rfl, hga, hca⟩ := (HRA.out.of hin).cell hlt
      obtain ⟨x, hxe⟩ : ∃ x, x = la.getD k 0 := ⟨_, rfl⟩
      have hx : x < 18446744073709551616 := by rw [hxe]; exact HWA.out.getD k
      rw [← hxe] at hca
      have HXE := Lib.hid hxe; clear hxe
      obtain ⟨z, hze⟩ : ∃ z, z = o.getD (W0 + k) 0 := ⟨_, rfl⟩
      have hco := hown.cell (i := W0 + k) (by rw [HO.out]; omega)
      have hfo := hown.frozen (W0 + k)
      have hco1 := hown.cell (i := W0 + k + 1) (by rw [HO.out]; omega)
      have hfo1 := hown.frozen (W0 + k + 1)
      rw [← hze] at hco hlow
      have HZE := Lib.hid hze; clear hze
      have gsh : IntKind.u64.wrap ((x : Int) * 2 ^ S0) = ((x * 2 ^ S0 % 18446744073709551616 : Nat) : Int) := by
        have e : (x : Int) * 2 ^ S0 = ((x * 2 ^ S0 : Nat) : Int) := by simp
        rw [e, IntKind.wrap_u64]; omega
      have gsw : IntKind.u64.wrap (64 - (S0 : Int)) = ((64 - S0 : Nat) : Int) := by rw [IntKind.wrap_u64]; omega
      have gsx : (64 - (S0 : Int)).toNat = 64 - S0 := by omega
      have gor := low_or (x := x) hS hlow
      have gdv : x * 2 ^ S0 / 18446744073709551616 = x / 2 ^ (64 - S0) := by
        rw [show (18446744073709551616 : Nat) = 2 ^ (64 - S0) * 2 ^ S0 by rw [← Nat.pow_add, show 64 - S0 + S0 = 64 by omega], Nat.mul_div_mul_right _ _ (Nat.two_pow_pos S0)]
      have hstep := fun (u v q : Int) => LeftRel.step (S0 := S0) (x := x) (z := z) u v q hlt hS HO.out HWO.out hown HV.out hlow HZ.out hin HXE.out HZE.out hx (Nat.le_refl _)
      rw [gdv] at hstep
      have HST := Lib.hid hstep; clear hstep
      go_wp2
      go_roundw
      case rel => exact HST.out _ _ _ (by rw [show ((x : Int) * 2 ^ S0 % 18446744073709551616) = ((x * 2 ^ S0 % 18446744073709551616 : Nat) : Int) by simp]; exact gor) (by simp) (by omega)
      case measure => simp [intOf]; omega
    · obtain rfl : k = la.length := by omega
      have CT := Lib.hid (Pnorm o (some ⟨w.heap.size, 0, none⟩) (W0 + la.length + 1) HWO.out (by rw [HO.out]; exact Nat.le_refl _) (by rw [HO.out]; omega) _ hown.at)
      rw [HO.out] at CT
      go_wp2_with fail
      refine (CT.out).mono ?_; rintro e1 w1 ⟨rfl, rfl⟩
      go_wp2
      go_ret
      refine retW_cut hown.at HWO.out (by rw [HO.out]; exact Nat.le_refl _) hin ?_
      rw [← lo_all o (Nat.le_of_eq HO.out), HV.out, lo_all _ (Nat.le_refl _), HN.out, Nat.mul_assoc, show (18446744073709551616 : Nat) = 2 ^ 64 from rfl, ← Nat.pow_mul, ← Nat.pow_add, Nat.add_comm S0]
set_option maxRecDepth 100000 in
set_option maxHeartbeats 600000 in
theorem Pleft_nil (A : Option Addr) (ca n : Nat) (w : World) : Calls Tryz.prog 156 #[.slice A 0 ca, .int .u64 (n : Int)] w (RetW w 0) := by
  go_enter Tryz.func156, Tryz.ntmps156
  go_wp2
  go_ret
  exact ⟨none, 0, by rw [dg_zero]; rfl, by rw [dg_zero]; exact Nat.le_refl _, by rw [dg_zero]; exact RowAt.nil, Within.refl _⟩
theorem Pleft (a : Nat) (A : Option Addr) (ca n : Nat) (ha : (dg a).length ≤ 500000) (hn : n ≤ 16000000) (w : World) (hra : RowAt w A (dg a)) :
    Calls Tryz.prog 156 #[.slice A (dg a).length ca, .int .u64 (n : Int)] w (RetW w (a * 2 ^ n)) := by
  by_cases h : a = 0
  · subst h
    rw [dg_zero, Nat.zero_mul]
    exact Pleft_nil A ca n w
  · have := Pleft_pos (dg a) A ca n (n / 64) (n % 64) (words_dg a) ha (dg_len_pos h) (by omega) (by omega) (by omega) w hra
    rw [wval_dg] at this
    exact this
end Go.Proofs.YtjmaggfddinbkaaGreatDoor.P64
end

section
namespace Go.Proofs.YtjmaggfddinbkaaGreatDoor.P64
open Go.RowKit
theorem IntB.rd {w : World} {g : Nat} {v : Int} (h : IntB w g v) : ∃ A c, w.cell? ⟨g, 0, none⟩ = some (.bool (decide (v < 0))) ∧ w.cell? ⟨g, 1, none⟩ = some (.slice A (dg v.natAbs).length c) ∧ RowAt w A (dg v.natAbs) := by
  obtain ⟨A, c, h0, h1, _, hr⟩ := h.cells
  exact ⟨A, c, h0, h1, hr⟩
theorem sgv_not (v : Int) : sgv (!decide (v < 0)) v.natAbs = -v := by
  unfold sgv; by_cases h : v < 0
  · rw [decide_eq_true h, if_neg (by decide)]; omega
  · rw [decide_eq_false h, if_pos (by decide)]; omega
theorem sgv_no (n : Nat) : sgv false n = n := rfl
theorem PutI.trans {W w : World} {z : Nat} {v : Int} {e : Ending} {w' : World} (h : Within W w) (k : PutI w z v e w') : PutI W z v e w' := ⟨k.1, k.2.1, grown_trans (grown_within z h) k.2.2⟩
theorem PutI_eq {W : World} {z : Nat} {v v2 : Int} {e : Ending} {w' : World} (h : PutI W z v e w') (k : v = v2) : PutI W z v2 e w' := k ▸ h
theorem dg_mul_len {a b n m : Nat} (ha : (dg a).length ≤ n) (hb : (dg b).length ≤ m) : (dg (a * b)).length ≤ n + m := by
  refine dg_len_le ?_
  have h1 := Nat.lt_of_lt_of_le (lt_of_dg a) (Nat.pow_le_pow_right (by decide) ha)
  have h2 := Nat.lt_of_lt_of_le (lt_of_dg b) (Nat.pow_le_pow_right (by decide) hb)
  rw [Nat.pow_add]
  exact Nat.mul_lt_mul_of_lt_of_le h1 (Nat.le_of_lt h2) (Nat.pow_pos (by decide))
theorem dg_shl_len {a n k : Nat} (ha : (dg a).length ≤ n) : (dg (a * 2 ^ (64 * k))).length ≤ n + k := by
  refine dg_len_le ?_
  have h1 := Nat.lt_of_lt_of_le (lt_of_dg a) (Nat.pow_le_pow_right (by decide) ha)
  rw [Nat.pow_add, Nat.pow_mul]
  exact Nat.mul_lt_mul_of_pos_right h1 (Nat.pow_pos (by decide))
theorem dg_shl_le {a n j k : Nat} (ha : (dg a).length ≤ n) (hj : j ≤ 64 * k) : (dg (a * 2 ^ j)).length ≤ n + k :=
  Nat.le_trans (dg_len_mono (Nat.mul_le_mul_left _ (Nat.pow_le_pow_right (by decide) hj))) (dg_shl_len ha)
set_option maxRecDepth 100000 in
set_option maxHeartbeats 600000 in
theorem PsetUint64 (z n : Nat) (hn : n < 18446744073709551616) (w : World) (hz : IntTy w z) : Calls Tryz.prog 121 #[.pointer (some ⟨z, 0, none⟩), .int .u64 (n : Int)] w (PutI w z n) := by
  have HZ := Lib.hid hz; clear hz
  have HN := Lib.hid hn; clear hn
  go_enter Tryz.func121, Tryz.ntmps121
  go_wp2_with fail
  refine (Pword n HN.out w).mono ?_; rintro e1 w1 ⟨A1, c1, rfl, hc1, hr1, hb1⟩
  go_wp2_with fail
  refine (Pmade z false n A1 c1 hc1 w1 hr1 (HZ.out.of hb1)).mono ?_; rintro e2 w2 ⟨rfl, hI, hG⟩
  go_wp2
  go_ret
  rw [sgv_no] at hI
  exact ⟨rfl, hI, grown_trans (grown_within z hb1) hG⟩
set_option maxRecDepth 100000 in
set_option maxHeartbeats 600000 in
theorem Pmul0 (z x y : Nat) (sa sb : Bool) (na nb : Nat) (A Bv : Option Addr) (ca cb : Nat) (ha : (dg na).length ≤ 700000) (hb : (dg nb).length ≤ 700000) (w : World) (hz : IntTy w z) (a0 : w.cell? ⟨x, 0, none⟩ = some (.bool sa)) (a1 : w.cell? ⟨x, 1, none⟩ = some (.slice A (dg na).length ca)) (hra : RowAt w A (dg na)) (b0 : w.cell? ⟨y, 0, none⟩ = some (.bool sb)) (b1 : w.cell? ⟨y, 1, none⟩ = some (.slice Bv (dg nb).length cb)) (hrb : RowAt w Bv (dg nb)) : Calls Tryz.prog 119 #[.pointer (some ⟨z, 0, none⟩), .pointer (some ⟨x, 0, none⟩), .pointer (some ⟨y, 0, none⟩)] w (PutI w z (sgv (!sa == sb) (na * nb))) := by
  have HZ := Lib.hid hz; have HRA := Lib.hid hra; have HRB := Lib.hid hrb; clear hz hra hrb
  have hlx := World.block_lt_of_cell? w _ a0; have hly := World.block_lt_of_cell? w _ b0
  go_enter Tryz.func119, Tryz.ntmps119
  go_wp2
  refine wp_region_sched (fun W => W.cell? ⟨x, 0, none⟩ = some (.bool sa) ∧ W.cell? ⟨y, 0, none⟩ = some (.bool sb) ∧ W.cell? ⟨x, 1, none⟩ = some (.slice A (dg na).length ca) ∧ W.cell? ⟨y, 1, none⟩ = some (.slice Bv (dg nb).length cb)) 19 [(0, true), (1, true), (2, true), (3, true), (4, true), (5, true), (6, true), (7, true), (8, true), (9, true), (10, true), (11, true), (12, true), (13, true), (14, true), (15, true), (16, true), (17, true), (18, false), (19, false), (20, false)] (by kernel_rfl) (by kernel_rfl) ⟨a0, b0, a1, b1⟩ ?_
  intro hS
  repeat
    apply sched_firm rfl rfl hS
    · intro wq hq
      have hq0 := hq.1; have hq1 := hq.2.1; have hq2 := hq.2.2.1; have hq3 := hq.2.2.2
      clear hq
      go_simp
      first | rfl | (trace_state; fail)
    try simp only [Act.put, List.setIfInBounds_toArray, List.set_cons_zero, List.set_cons_succ]
  refine sched_one rfl rfl (fun K hK => ?_)
  go_simp
  refine (Ptimes na nb A Bv ca cb ha hb w.drew (RowAt.drew HRA.out) (RowAt.drew HRB.out)).mono ?_
  rintro e2 w2 ⟨A', c', rfl, hc', hr', hb'⟩
  have hb2 : Within w w2 := (Within.refl w).drew.trans hb'
  refine hK _ _ (fun h => ⟨(hb2.cells _ _ hlx).trans a0, (hb2.cells _ _ hly).trans b0, (hb2.cells _ _ hlx).trans a1, (hb2.cells _ _ hly).trans b1⟩) ?_
  clear hK K
  try simp only [Act.put, List.setIfInBounds_toArray, List.set_cons_zero, List.set_cons_succ]
  refine sched_one rfl rfl (fun K hK => ?_)
  go_simp
  refine (Pmade z _ (na * nb) A' c' hc' w2 hr' (HZ.out.of hb2)).mono ?_
  rintro e3 w3 ⟨rfl, hI, hG⟩
  refine hK _ _ (fun h => absurd h (by decide)) ?_
  clear hK K
  try simp only [Act.put, List.setIfInBounds_toArray, List.set_cons_zero, List.set_cons_succ]
  refine sched_one rfl rfl (fun K hK => ?_)
  go_simp
  refine hK _ _ (fun h => absurd h (by decide)) ?_
  clear hK K
  try simp only [Act.put, List.setIfInBounds_toArray, List.set_cons_zero, List.set_cons_succ]
  refine sched_nil ?_
  go_wp2
  go_ret
  exact ⟨rfl, hI, grown_trans (grown_within z hb2) hG⟩
theorem Pmul (z x y : Nat) (a b : Int) (ha : (dg a.natAbs).length ≤ 700000) (hb : (dg b.natAbs).length ≤ 700000) (w : World) (hz : IntTy w z) (hx : IntB w x a) (hy : IntB w y b) : Calls Tryz.prog 119 #[.pointer (some ⟨z, 0, none⟩), .pointer (some ⟨x, 0, none⟩), .pointer (some ⟨y, 0, none⟩)] w (PutI w z (a * b)) := by
  obtain ⟨A, ca, a0, a1, hra⟩ := hx.rd
  obtain ⟨Bv, cb, b0, b1, hrb⟩ := hy.rd
  refine Calls.mono (Pmul0 z x y _ _ _ _ A Bv ca cb ha hb w hz a0 a1 hra b0 b1 hrb) (fun _ _ h => PutI_eq h ?_)
  unfold sgv
  rw [← Int.natAbs_mul]
  by_cases ha0 : a < 0 <;> by_cases hb0 : b < 0
  · have := Int.mul_pos_of_neg_of_neg ha0 hb0; simp [ha0, hb0]; omega
  · have := Int.mul_nonpos_of_nonpos_of_nonneg (Int.le_of_lt ha0) (Int.not_lt.1 hb0); simp [ha0, hb0]; omega
  · have := Int.mul_nonpos_of_nonneg_of_nonpos (Int.not_lt.1 ha0) (Int.le_of_lt hb0); simp [ha0, hb0]; omega
  · have := Int.mul_nonneg (Int.not_lt.1 ha0) (Int.not_lt.1 hb0); simp [ha0, hb0]; omega
set_option maxRecDepth 100000 in
set_option maxHeartbeats 600000 in
theorem Plsh0 (z x n : Nat) (sa : Bool) (na : Nat) (A : Option Addr) (ca : Nat) (ha : (dg na).length ≤ 400000) (hn : n ≤ 16000000) (w : World) (hz : IntTy w z) (a0 : w.cell? ⟨x, 0, none⟩ = some (.bool sa)) (a1 : w.cell? ⟨x, 1, none⟩ = some (.slice A (dg na).length ca)) (hra : RowAt w A (dg na)) : Calls Tryz.prog 123 #[.pointer (some ⟨z, 0, none⟩), .pointer (some ⟨x, 0, none⟩), .int .u64 (n : Int)] w (PutI w z (sgv sa (na * 2 ^ n))) := by
  have HZ := Lib.hid hz; have HRA := Lib.hid hra; clear hz hra
  have hlx := World.block_lt_of_cell? w _ a0
  go_enter Tryz.func123, Tryz.ntmps123
  go_wp2
  refine wp_region_sched (fun W => W.cell? ⟨x, 0, none⟩ = some (.bool sa) ∧ W.cell? ⟨x, 1, none⟩ = some (.slice A (dg na).length ca)) 11 [(0, true), (1, true), (2, true), (3, true), (4, true), (5, true), (6, true), (7, true), (8, true), (9, true), (10, false), (11, false), (12, false)] (by kernel_rfl) (by kernel_rfl) ⟨a0, a1⟩ ?_
  intro hS
  repeat
    apply sched_firm rfl rfl hS
    · intro wq hq
      have hq0 := hq.1; have hq1 := hq.2
      clear hq
      go_simp
      first | rfl | (trace_state; fail)
    try simp only [Act.put, List.setIfInBounds_toArray, List.set_cons_zero, List.set_cons_succ]
  refine sched_one rfl rfl (fun K hK => ?_)
  go_simp
  refine (Pleft na A ca n (by omega) hn w.drew (RowAt.drew HRA.out)).mono ?_
  rintro e2 w2 ⟨A', c', rfl, hc', hr', hb'⟩
  have hb2 : Within w w2 := (Within.refl w).drew.trans hb'
  refine hK _ _ (fun h => ⟨(hb2.cells _ _ hlx).trans a0, (hb2.cells _ _ hlx).trans a1⟩) ?_
  clear hK K
  try simp only [Act.put, List.setIfInBounds_toArray, List.set_cons_zero, List.set_cons_succ]
  refine sched_one rfl rfl (fun K hK => ?_)
  go_simp
  refine (Pmade z _ (na * 2 ^ n) A' c' hc' w2 hr' (HZ.out.of hb2)).mono ?_
  rintro e3 w3 ⟨rfl, hI, hG⟩
  refine hK _ _ (fun h => absurd h (by decide)) ?_
  clear hK K
  try simp only [Act.put, List.setIfInBounds_toArray, List.set_cons_zero, List.set_cons_succ]
  refine sched_one rfl rfl (fun K hK => ?_)
  go_simp
  refine hK _ _ (fun h => absurd h (by decide)) ?_
  clear hK K
  try simp only [Act.put, List.setIfInBounds_toArray, List.set_cons_zero, List.set_cons_succ]
  refine sched_nil ?_
  go_wp2
  go_ret
  exact ⟨rfl, hI, grown_trans (grown_within z hb2) hG⟩
theorem Plsh (z x n : Nat) (a : Int) (ha : (dg a.natAbs).length ≤ 400000) (hn : n ≤ 16000000) (w : World) (hz : IntTy w z) (hx : IntB w x a) : Calls Tryz.prog 123 #[.pointer (some ⟨z, 0, none⟩), .pointer (some ⟨x, 0, none⟩), .int .u64 (n : Int)] w (PutI w z (a * 2 ^ n)) := by
  obtain ⟨A, ca, a0, a1, hra⟩ := hx.rd
  refine Calls.mono (Plsh0 z x n _ _ A ca ha hn w hz a0 a1 hra) (fun _ _ h => PutI_eq h ?_)
  have e : ((a.natAbs * 2 ^ n : Nat) : Int) = (a.natAbs : Int) * 2 ^ n := by simp
  unfold sgv
  by_cases ha0 : a < 0
  · rw [if_pos (decide_eq_true ha0), e, ← Int.neg_mul]; congr 1; omega
  · rw [decide_eq_false ha0, if_neg (by decide), e]; congr 1; omega
set_option maxRecDepth 100000 in
set_option maxHeartbeats 600000 in
theorem Pneg0 (z x : Nat) (sa : Bool) (na : Nat) (A : Option Addr) (ca : Nat) (ha : (dg na).length ≤ 400000) (w : World) (hz : IntTy w z) (a0 : w.cell? ⟨x, 0, none⟩ = some (.bool sa)) (a1 : w.cell? ⟨x, 1, none⟩ = some (.slice A (dg na).length ca)) (hra : RowAt w A (dg na)) : Calls Tryz.prog 122 #[.pointer (some ⟨z, 0, none⟩), .pointer (some ⟨x, 0, none⟩)] w (PutI w z (sgv (!sa) na)) := by
  have HZ := Lib.hid hz; have HRA := Lib.hid hra; clear hz hra
  have hlx := World.block_lt_of_cell? w _ a0
  go_enter Tryz.func122, Tryz.ntmps122
  go_wp2
  refine wp_region_sched (fun W => W.cell? ⟨x, 0, none⟩ = some (.bool sa) ∧ W.cell? ⟨x, 1, none⟩ = some (.slice A (dg na).length ca)) 11 [(0, true), (1, true), (2, true), (3, true), (4, true), (5, true), (6, true), (7, true), (8, true), (9, true), (10, false), (11, false), (12, false)] (by kernel_rfl) (by kernel_rfl) ⟨a0, a1⟩ ?_
  intro hS
  repeat
    apply sched_firm rfl rfl hS
    · intro wq hq
      have hq0 := hq.1; have hq1 := hq.2
      clear hq
      go_simp
      first | rfl | (trace_state; fail)
    try simp only [Act.put, List.setIfInBounds_toArray, List.set_cons_zero, List.set_cons_succ]
  refine sched_one rfl rfl (fun K hK => ?_)
  go_simp
  refine (Pclone na A ca (by omega) w.drew (RowAt.drew HRA.out)).mono ?_
  rintro e2 w2 ⟨A', c', rfl, hc', hr', hb'⟩
  have hb2 : Within w w2 := (Within.refl w).drew.trans hb'
  refine hK _ _ (fun h => ⟨(hb2.cells _ _ hlx).trans a0, (hb2.cells _ _ hlx).trans a1⟩) ?_
  clear hK K
  try simp only [Act.put, List.setIfInBounds_toArray, List.set_cons_zero, List.set_cons_succ]
  refine sched_one rfl rfl (fun K hK => ?_)
  go_simp
  refine (Pmade z _ na A' c' hc' w2 hr' (HZ.out.of hb2)).mono ?_
  rintro e3 w3 ⟨rfl, hI, hG⟩
  refine hK _ _ (fun h => absurd h (by decide)) ?_
  clear hK K
  try simp only [Act.put, List.setIfInBounds_toArray, List.set_cons_zero, List.set_cons_succ]
  refine sched_one rfl rfl (fun K hK => ?_)
  go_simp
  refine hK _ _ (fun h => absurd h (by decide)) ?_
  clear hK K
  try simp only [Act.put, List.setIfInBounds_toArray, List.set_cons_zero, List.set_cons_succ]
  refine sched_nil ?_
  go_wp2
  go_ret
  exact ⟨rfl, hI, grown_trans (grown_within z hb2) hG⟩
theorem Pneg (z x : Nat) (v : Int) (hl : (dg v.natAbs).length ≤ 400000) (w : World) (hz : IntTy w z) (hx : IntB w x v) : Calls Tryz.prog 122 #[.pointer (some ⟨z, 0, none⟩), .pointer (some ⟨x, 0, none⟩)] w (PutI w z (-v)) := by
  obtain ⟨A, c, c0, c1, hr⟩ := hx.rd
  have := Pneg0 z x _ _ A c hl w hz c0 c1 hr
  rw [sgv_not] at this
  exact this
def cmpI (a b : Int) : Int := if a < b then -1 else if b < a then 1 else 0
theorem cmpN_range (a b : Nat) : -1 ≤ cmpN a b ∧ cmpN a b ≤ 1 := by unfold cmpN; split <;> (try split) <;> omega
set_option maxRecDepth 100000 in
set_option maxHeartbeats 600000 in
theorem Pcmp_00 (x y : Nat) (na nb : Nat) (A Bv : Option Addr) (ca cb : Nat) (ha : (dg na).length ≤ 1000000) (hb : (dg nb).length ≤ 1000000) (w : World) (a0 : w.cell? ⟨x, 0, none⟩ = some (.bool false)) (a1 : w.cell? ⟨x, 1, none⟩ = some (.slice A (dg na).length ca)) (hra : RowAt w A (dg na)) (b0 : w.cell? ⟨y, 0, none⟩ = some (.bool false)) (b1 : w.cell? ⟨y, 1, none⟩ = some (.slice Bv (dg nb).length cb)) (hrb : RowAt w Bv (dg nb)) : Calls Tryz.prog 120 #[.pointer (some ⟨x, 0, none⟩), .pointer (some ⟨y, 0, none⟩)] w (fun e w' => e = .returned (.int .i64 (cmpN na nb)) ∧ Within w w') := by
  have HRA := Lib.hid hra; have HRB := Lib.hid hrb; clear hra hrb
  have hlx := World.block_lt_of_cell? w _ a0; have hly := World.block_lt_of_cell? w _ b0
  go_enter Tryz.func120, Tryz.ntmps120
  go_wp2
  go_quiet (fail)
  go_wp2
  obtain ⟨w1, hw1⟩ : ∃ w1, w1 = w.drewN nq := ⟨_, rfl⟩
  rw [← hw1]
  have hb1 : Within w w1 := by rw [hw1]; exact (Within.refl w).drewN _
  have a0' := (hb1.cells _ 0 hlx).trans a0; have a1' := (hb1.cells _ 1 hlx).trans a1; have b1' := (hb1.cells _ 1 hly).trans b1
  clear hw1
  refine wp_region_sched (fun W => W.cell? ⟨x, 1, none⟩ = some (.slice A (dg na).length ca) ∧ W.cell? ⟨y, 1, none⟩ = some (.slice Bv (dg nb).length cb)) 8 [(0, true), (1, true), (2, true), (3, true), (4, true), (5, true), (6, true), (7, true), (8, false), (9, false)] (by kernel_rfl) (by kernel_rfl) ⟨a1', b1'⟩ ?_
  intro hS
  repeat
    apply sched_firm rfl rfl hS
    · intro wq hq
      have hq0 := hq.1; have hq1 := hq.2
      clear hq
      go_simp
      first | rfl | (trace_state; fail)
    try simp only [Act.put, List.setIfInBounds_toArray, List.set_cons_zero, List.set_cons_succ]
  refine sched_one rfl rfl (fun K hK => ?_)
  go_simp
  refine (Pcompare na nb A Bv ca cb (by omega) (by omega) w1.drew (RowAt.drew (HRA.out.of hb1)) (RowAt.drew (HRB.out.of hb1))).mono ?_
  rintro e1 w2 ⟨rfl, hb2'⟩
  obtain ⟨cm, hcm⟩ : ∃ cm, cm = cmpN na nb := ⟨_, rfl⟩
  have hr := cmpN_range na nb
  rw [← hcm] at hr ⊢
  have HCM := Lib.hid hcm; clear hcm
  have hb2 : Within w w2 := hb1.drew.trans hb2'
  refine hK _ _ (fun h => absurd h (by decide)) ?_
  clear hK K
  try simp only [Act.put, List.setIfInBounds_toArray, List.set_cons_zero, List.set_cons_succ]
  refine sched_one rfl rfl (fun K hK => ?_)
  go_simp
  refine hK _ _ (fun h => absurd h (by decide)) ?_
  clear hK K
  try simp only [Act.put, List.setIfInBounds_toArray, List.set_cons_zero, List.set_cons_succ]
  refine sched_nil ?_
  have a0'' := (hb2.cells _ 0 hlx).trans a0
  go_wp2
  go_ret
  exact ⟨ret_int (by rw [HCM.out]), hb2⟩
set_option maxRecDepth 100000 in
set_option maxHeartbeats 600000 in
theorem Pcmp_01 (x y : Nat) (na nb : Nat) (A Bv : Option Addr) (ca cb : Nat) (ha : (dg na).length ≤ 1000000) (hb : (dg nb).length ≤ 1000000) (w : World) (a0 : w.cell? ⟨x, 0, none⟩ = some (.bool false)) (a1 : w.cell? ⟨x, 1, none⟩ = some (.slice A (dg na).length ca)) (hra : RowAt w A (dg na)) (b0 : w.cell? ⟨y, 0, none⟩ = some (.bool true)) (b1 : w.cell? ⟨y, 1, none⟩ = some (.slice Bv (dg nb).length cb)) (hrb : RowAt w Bv (dg nb)) : Calls Tryz.prog 120 #[.pointer (some ⟨x, 0, none⟩), .pointer (some ⟨y, 0, none⟩)] w (fun e w' => e = .returned (.int .i64 (1)) ∧ Within w w') := by
  clear hra hrb ha hb
  go_enter Tryz.func120, Tryz.ntmps120
  go_wp2
  go_quiet (fail)
  go_wp2
  go_ret
  exact ⟨rfl, (Within.refl w).drewN _⟩
set_option maxRecDepth 100000 in
set_option maxHeartbeats 600000 in
theorem Pcmp_10 (x y : Nat) (na nb : Nat) (A Bv : Option Addr) (ca cb : Nat) (ha : (dg na).length ≤ 1000000) (hb : (dg nb).length ≤ 1000000) (w : World) (a0 : w.cell? ⟨x, 0, none⟩ = some (.bool true)) (a1 : w.cell? ⟨x, 1, none⟩ = some (.slice A (dg na).length ca)) (hra : RowAt w A (dg na)) (b0 : w.cell? ⟨y, 0, none⟩ = some (.bool false)) (b1 : w.cell? ⟨y, 1, none⟩ = some (.slice Bv (dg nb).length cb)) (hrb : RowAt w Bv (dg nb)) : Calls Tryz.prog 120 #[.pointer (some ⟨x, 0, none⟩), .pointer (some ⟨y, 0, none⟩)] w (fun e w' => e = .returned (.int .i64 (-1)) ∧ Within w w') := by
  clear hra hrb ha hb
  go_enter Tryz.func120, Tryz.ntmps120
  go_wp2
  go_quiet (fail)
  go_wp2
  go_ret
  exact ⟨rfl, (Within.refl w).drewN _⟩
set_option maxRecDepth 100000 in
set_option maxHeartbeats 600000 in
theorem Pcmp_11 (x y : Nat) (na nb : Nat) (A Bv : Option Addr) (ca cb : Nat) (ha : (dg na).length ≤ 1000000) (hb : (dg nb).length ≤ 1000000) (w : World) (a0 : w.cell? ⟨x, 0, none⟩ = some (.bool true)) (a1 : w.cell? ⟨x, 1, none⟩ = some (.slice A (dg na).length ca)) (hra : RowAt w A (dg na)) (b0 : w.cell? ⟨y, 0, none⟩ = some (.bool true)) (b1 : w.cell? ⟨y, 1, none⟩ = some (.slice Bv (dg nb).length cb)) (hrb : RowAt w Bv (dg nb)) : Calls Tryz.prog 120 #[.pointer (some ⟨x, 0, none⟩), .pointer (some ⟨y, 0, none⟩)] w (fun e w' => e = .returned (.int .i64 (cmpN nb na)) ∧ Within w w') := by
  have HRA := Lib.hid hra; have HRB := Lib.hid hrb; clear hra hrb
  have hlx := World.block_lt_of_cell? w _ a0; have hly := World.block_lt_of_cell? w _ b0
  go_enter Tryz.func120, Tryz.ntmps120
  go_wp2
  go_quiet (fail)
  go_wp2
  obtain ⟨w1, hw1⟩ : ∃ w1, w1 = w.drewN nq := ⟨_, rfl⟩
  rw [← hw1]
  have hb1 : Within w w1 := by rw [hw1]; exact (Within.refl w).drewN _
  have a0' := (hb1.cells _ 0 hlx).trans a0; have a1' := (hb1.cells _ 1 hlx).trans a1; have b1' := (hb1.cells _ 1 hly).trans b1
  clear hw1
  refine wp_region_sched (fun W => W.cell? ⟨x, 1, none⟩ = some (.slice A (dg na).length ca) ∧ W.cell? ⟨y, 1, none⟩ = some (.slice Bv (dg nb).length cb)) 8 [(0, true), (1, true), (2, true), (3, true), (4, true), (5, true), (6, true), (7, true), (8, false), (9, false)] (by kernel_rfl) (by kernel_rfl) ⟨a1', b1'⟩ ?_
  intro hS
  repeat
    apply sched_firm rfl rfl hS
    · intro wq hq
      have hq0 := hq.1; have hq1 := hq.2
      clear hq
      go_simp
      first | rfl | (trace_state; fail)
    try simp only [Act.put, List.setIfInBounds_toArray, List.set_cons_zero, List.set_cons_succ]
  refine sched_one rfl rfl (fun K hK => ?_)
  go_simp
  refine (Pcompare nb na Bv A cb ca (by omega) (by omega) w1.drew (RowAt.drew (HRB.out.of hb1)) (RowAt.drew (HRA.out.of hb1))).mono ?_
  rintro e1 w2 ⟨rfl, hb2'⟩
  obtain ⟨cm, hcm⟩ : ∃ cm, cm = cmpN nb na := ⟨_, rfl⟩
  have hr := cmpN_range nb na
  rw [← hcm] at hr ⊢
  have HCM := Lib.hid hcm; clear hcm
  have hb2 : Within w w2 := hb1.drew.trans hb2'
  refine hK _ _ (fun h => absurd h (by decide)) ?_
  clear hK K
  try simp only [Act.put, List.setIfInBounds_toArray, List.set_cons_zero, List.set_cons_succ]
  refine sched_one rfl rfl (fun K hK => ?_)
  go_simp
  refine hK _ _ (fun h => absurd h (by decide)) ?_
  clear hK K
  try simp only [Act.put, List.setIfInBounds_toArray, List.set_cons_zero, List.set_cons_succ]
  refine sched_nil ?_
  have a0'' := (hb2.cells _ 0 hlx).trans a0
  go_wp2
  go_ret
  exact ⟨ret_int (by rw [HCM.out]), hb2⟩
theorem Pcmp (x y : Nat) (a b : Int) (ha : (dg a.natAbs).length ≤ 1000000) (hb : (dg b.natAbs).length ≤ 1000000) (w : World) (hx : IntB w x a) (hy : IntB w y b) : Calls Tryz.prog 120 #[.pointer (some ⟨x, 0, none⟩), .pointer (some ⟨y, 0, none⟩)] w (fun e w' => e = .returned (.int .i64 (cmpI a b)) ∧ Within w w') := by
  obtain ⟨A, ca, a0, a1, hra⟩ := hx.rd
  obtain ⟨Bv, cb, b0, b1, hrb⟩ := hy.rd
  by_cases ha0 : a < 0 <;> by_cases hb0 : b < 0
  · rw [decide_eq_true ha0] at a0; rw [decide_eq_true hb0] at b0
    refine (Pcmp_11 x y _ _ A Bv ca cb ha hb w a0 a1 hra b0 b1 hrb).mono fun e w' h => ⟨h.1.trans (ret_int ?_), h.2⟩
    unfold cmpI cmpN; repeat' split
    all_goals omega
  · rw [decide_eq_true ha0] at a0; rw [decide_eq_false hb0] at b0
    refine (Pcmp_10 x y _ _ A Bv ca cb ha hb w a0 a1 hra b0 b1 hrb).mono fun e w' h => ⟨h.1.trans (ret_int ?_), h.2⟩
    unfold cmpI; rw [if_pos (by omega)]
  · rw [decide_eq_false ha0] at a0; rw [decide_eq_true hb0] at b0
    refine (Pcmp_01 x y _ _ A Bv ca cb ha hb w a0 a1 hra b0 b1 hrb).mono fun e w' h => ⟨h.1.trans (ret_int ?_), h.2⟩
    unfold cmpI; rw [if_neg (by omega), if_pos (by omega)]
  · rw [decide_eq_false ha0] at a0; rw [decide_eq_false hb0] at b0
    refine (Pcmp_00 x y _ _ A Bv ca cb ha hb w a0 a1 hra b0 b1 hrb).mono fun e w' h => ⟨h.1.trans (ret_int ?_), h.2⟩
    unfold cmpI cmpN; repeat' split
    all_goals omega
end Go.Proofs.YtjmaggfddinbkaaGreatDoor.P64
end

section
namespace Go.Proofs.YtjmaggfddinbkaaGreatDoor.P64
open Go.RowKit
theorem dg_add_len {a b k : Nat} (ha : (dg a).length ≤ k) (hb : (dg b).length ≤ k) : (dg (a + b)).length ≤ k + 1 := by
  refine dg_len_le ?_
  have h1 := Nat.lt_of_lt_of_le (lt_of_dg a) (Nat.pow_le_pow_right (by decide) ha)
  have h2 := Nat.lt_of_lt_of_le (lt_of_dg b) (Nat.pow_le_pow_right (by decide) hb)
  rw [Nat.pow_succ]; omega
end Go.Proofs.YtjmaggfddinbkaaGreatDoor.P64
end

section
namespace Go.Proofs.YtjmaggfddinbkaaGreatDoor.Fp
open Ieee
theorem two_pow_pos (n : Nat) : 0 < 2 ^ n := Nat.two_pow_pos n
def rne (n g : Nat) : Nat := n / g + (if g < 2 * (n % g) ∨ (g = 2 * (n % g) ∧ n / g % 2 = 1) then 1 else 0)
theorem rne_one (n : Nat) : rne n 1 = n := by
  unfold rne
  simp [Nat.mod_one]
theorem rne_zero (g : Nat) (_hg : 0 < g) : rne 0 g = 0 := by
  unfold rne; simp
theorem rne_mul (q g : Nat) (hg : 0 < g) : rne (q * g) g = q := by
  unfold rne
  rw [Nat.mul_mod_left, Nat.mul_div_cancel _ hg]
  simp; omega
theorem rne_scale (n g k : Nat) (hk : 0 < k) : rne (n * k) (g * k) = rne n g := by
  unfold rne
  rw [Nat.mul_div_mul_right _ _ hk, Nat.mul_mod_mul_right]
  have e1 : (g * k < 2 * (n % g * k)) ↔ g < 2 * (n % g) := by
    rw [← Nat.mul_assoc]; exact Nat.mul_lt_mul_right hk
  have e2 : (g * k = 2 * (n % g * k)) ↔ g = 2 * (n % g) := by
    rw [← Nat.mul_assoc]; exact ⟨fun h => Nat.eq_of_mul_eq_mul_right hk h, fun h => congrArg (· * k) h⟩
  simp only [e1, e2]
theorem shiftLeft_eq (a b : Nat) : a <<< b = a * 2 ^ b := Nat.shiftLeft_eq a b
theorem cut_even (neg : Bool) (n drop : Nat) : Toward.even.cut neg n drop = rne n (2 ^ drop) := by
  unfold Toward.cut rne
  simp only [shiftLeft_eq, Nat.one_mul]
  have hlog : n < 2 ^ (n.log2 + 1) := Nat.lt_log2_self
  by_cases h : drop ≤ n.log2 + 2
  · rw [Nat.min_eq_left h]
    congr 1
    by_cases h1 : 2 ^ drop < 2 * (n % 2 ^ drop)
    · simp [h1]
    · by_cases h2 : 2 ^ drop = 2 * (n % 2 ^ drop)
      · by_cases h3 : n / 2 ^ drop % 2 = 1
        · have : ¬ 2 ^ drop < 2 ^ drop := by omega
          simp [← h2, h3]
        · simp [← h2, h3]
      · simp [h1, h2]
  · have h' : n.log2 + 2 ≤ drop := by omega
    rw [Nat.min_eq_right h']
    have hp : 2 ^ (n.log2 + 2) = 2 * 2 ^ (n.log2 + 1) := by rw [Nat.pow_succ]; omega
    have hle : 2 ^ (n.log2 + 2) ≤ 2 ^ drop := Nat.pow_le_pow_right (by omega) h'
    have d1 : n / 2 ^ (n.log2 + 2) = 0 := Nat.div_eq_of_lt (by omega)
    have d2 : n / 2 ^ drop = 0 := Nat.div_eq_of_lt (by omega)
    have m1 : n % 2 ^ (n.log2 + 2) = n := Nat.mod_eq_of_lt (by omega)
    have m2 : n % 2 ^ drop = n := Nat.mod_eq_of_lt (by omega)
    rw [d1, d2, m1, m2]
    have a1 : ¬ (2 ^ (n.log2 + 2) < 2 * n) := by omega
    have a2 : ¬ (2 ^ drop < 2 * n) := by omega
    simp [a1, a2]
variable (f : Format)
theorem binade_pos : 0 < f.binade := two_pow_pos _
def grid (m s : Nat) : Nat := (max (m.log2 - f.fractionBits) s - s) * f.binade + rne m (2 ^ max (m.log2 - f.fractionBits) s)
def rung (m : Nat) : Nat := min (grid f m 0) f.infRung
theorem grid_zero (s : Nat) : grid f 0 s = 0 := by
  unfold grid
  have : (0 : Nat).log2 = 0 := by simp
  rw [this, Nat.zero_sub, Nat.max_eq_right (Nat.zero_le _), Nat.sub_self, Nat.zero_mul, rne_zero _ (two_pow_pos _)]
theorem nearest_below (neg : Bool) (m s : Nat) : f.nearest neg m (f.leastPlace - s) = f.word neg (min (grid f m s) f.infRung) := by
  unfold Format.nearest
  by_cases hm : m = 0
  · subst hm; simp [grid_zero]
  · rw [if_neg hm]
    dsimp only
    rw [cut_even]
    have hlast : max (f.leastPlace - s + m.log2 - f.fractionBits) f.leastPlace = f.leastPlace + (max (m.log2 - f.fractionBits) s : Nat) - s := by omega
    rw [hlast]
    have h1 : (f.leastPlace - s - (f.leastPlace + (max (m.log2 - f.fractionBits) s : Nat) - s)).toNat = 0 := by omega
    have h2 : (f.leastPlace + (max (m.log2 - f.fractionBits) s : Nat) - s - (f.leastPlace - s)).toNat = max (m.log2 - f.fractionBits) s := by omega
    have h3 : (f.leastPlace + (max (m.log2 - f.fractionBits) s : Nat) - s - f.leastPlace).toNat = max (m.log2 - f.fractionBits) s - s := by omega
    rw [h1, h2, h3]
    rfl
theorem log2_mul_pow (m k : Nat) (hm : m ≠ 0) : (m * 2 ^ k).log2 = m.log2 + k := by
  have hp := two_pow_pos k
  have hne : m * 2 ^ k ≠ 0 := Nat.mul_ne_zero hm (by omega)
  rw [Nat.log2_eq_iff hne]
  have h1 := Nat.log2_self_le hm
  have h2 : m < 2 ^ (m.log2 + 1) := Nat.lt_log2_self
  constructor
  · rw [Nat.pow_add]; exact Nat.mul_le_mul_right _ h1
  · have : 2 ^ (m.log2 + k + 1) = 2 ^ (m.log2 + 1) * 2 ^ k := by rw [← Nat.pow_add]; congr 1; omega
    rw [this]; exact (Nat.mul_lt_mul_right hp).2 h2
theorem grid_shift (m k s : Nat) : grid f (m * 2 ^ k) (s + k) = grid f m s := by
  by_cases hm : m = 0
  · subst hm; simp [grid_zero]
  · unfold grid
    rw [log2_mul_pow m k hm]
    by_cases h : m.log2 - f.fractionBits ≤ s
    · rw [Nat.max_eq_right h, Nat.max_eq_right (by omega), Nat.pow_add, rne_scale _ _ _ (two_pow_pos k)]
      simp
    · have e1 : max (m.log2 - f.fractionBits) s = m.log2 - f.fractionBits := by omega
      have e2 : max (m.log2 + k - f.fractionBits) (s + k) = m.log2 - f.fractionBits + k := by omega
      rw [e1, e2, Nat.pow_add, rne_scale _ _ _ (two_pow_pos k)]
      congr 2; omega
theorem nearest_units (neg : Bool) (m : Nat) (e : Int) (he : f.leastPlace ≤ e) : f.nearest neg m e = f.word neg (rung f (m * 2 ^ (e - f.leastPlace).toNat)) := by
  by_cases hm : m = 0
  · subst hm
    simp [Format.nearest, rung, grid_zero]
  · obtain ⟨k, hk⟩ := Int.eq_ofNat_of_zero_le (show 0 ≤ e - f.leastPlace by omega)
    have ek : e = f.leastPlace + k := by omega
    subst ek
    rw [hk]
    simp only [Int.toNat_natCast]
    unfold Format.nearest
    rw [if_neg hm]
    dsimp only
    rw [cut_even]
    unfold rung grid
    rw [log2_mul_pow m k hm]
    by_cases h : m.log2 + k - f.fractionBits ≤ k
    · -- a shift to the left, or none
      by_cases h0 : m.log2 + k ≤ f.fractionBits
      · have hlast : max (f.leastPlace + k + m.log2 - f.fractionBits) f.leastPlace = f.leastPlace := by omega
        rw [hlast]
        have h1 : (f.leastPlace + k - f.leastPlace).toNat = k := by omega
        have h2 : (f.leastPlace - (f.leastPlace + k)).toNat = 0 := by omega
        have h3 : m.log2 + k - f.fractionBits = 0 := by omega
        rw [h1, h2, h3]
        simp [rne_one, shiftLeft_eq]
      · have hd : (m.log2 + k - f.fractionBits : Nat) = m.log2 + k - f.fractionBits := rfl
        have hlast : max (f.leastPlace + k + m.log2 - f.fractionBits) f.leastPlace = f.leastPlace + (m.log2 + k - f.fractionBits : Nat) := by omega
        rw [hlast]
        have h1 : (f.leastPlace + k - (f.leastPlace + (m.log2 + k - f.fractionBits : Nat))).toNat = k - (m.log2 + k - f.fractionBits) := by omega
        have h2 : (f.leastPlace + (m.log2 + k - f.fractionBits : Nat) - (f.leastPlace + k)).toNat = 0 := by omega
        have h3 : (f.leastPlace + (m.log2 + k - f.fractionBits : Nat) - f.leastPlace).toNat = m.log2 + k - f.fractionBits := by omega
        have h4 : max (m.log2 + k - f.fractionBits) 0 = m.log2 + k - f.fractionBits := by omega
        rw [h1, h2, h3, h4, shiftLeft_eq, Nat.pow_zero, rne_one]
        have h5 : m * 2 ^ k = (m * 2 ^ (k - (m.log2 + k - f.fractionBits))) * 2 ^ (m.log2 + k - f.fractionBits) := by
          rw [Nat.mul_assoc, ← Nat.pow_add]; congr 2; omega
        rw [h5, rne_mul _ _ (two_pow_pos _)]
        simp
    · have hlast : max (f.leastPlace + k + m.log2 - f.fractionBits) f.leastPlace = f.leastPlace + (m.log2 + k - f.fractionBits : Nat) := by omega
      rw [hlast]
      have h1 : (f.leastPlace + k - (f.leastPlace + (m.log2 + k - f.fractionBits : Nat))).toNat = 0 := by omega
      have h2 : (f.leastPlace + (m.log2 + k - f.fractionBits : Nat) - (f.leastPlace + k)).toNat = m.log2 - f.fractionBits := by omega
      have h3 : (f.leastPlace + (m.log2 + k - f.fractionBits : Nat) - f.leastPlace).toNat = m.log2 + k - f.fractionBits := by omega
      have h4 : max (m.log2 + k - f.fractionBits) 0 = m.log2 - f.fractionBits + k := by omega
      rw [h1, h2, h3, h4, shiftLeft_eq, Nat.pow_zero, Nat.mul_one, Nat.pow_add, rne_scale _ _ _ (two_pow_pos k)]
      congr 2
      simp
      congr 1
      omega
end Go.Proofs.YtjmaggfddinbkaaGreatDoor.Fp
namespace Go.Proofs.YtjmaggfddinbkaaGreatDoor.Fp
open Ieee
variable (f : Format)
def mag (r : Nat) : Nat := if r < f.binade then r else (f.binade + r % f.binade) * 2 ^ (r / f.binade - 1)
def step (r : Nat) : Nat := 2 ^ (r / f.binade - 1)
theorem step_pos (r : Nat) : 0 < step f r := two_pow_pos _
theorem mag_lt (r : Nat) (h : r < f.binade) : mag f r = r := if_pos h
theorem mag_zero : mag f 0 = 0 := if_pos (binade_pos f)
theorem mag_eq (r : Nat) : mag f r = (if r < f.binade then r else f.binade + r % f.binade) * step f r := by
  unfold mag step
  by_cases h : r < f.binade
  · rw [if_pos h, if_pos h, Nat.div_eq_of_lt h]; simp
  · rw [if_neg h, if_neg h]
theorem mag_succ (r : Nat) : mag f (r + 1) = mag f r + step f r := by
  have hB := binade_pos f
  unfold mag step
  by_cases h : r + 1 < f.binade
  · rw [if_pos h, if_pos (by omega), Nat.div_eq_of_lt (by omega)]
  · rw [if_neg h]
    by_cases h1 : r < f.binade
    · have e : r + 1 = f.binade := by omega
      rw [if_pos h1, e, Nat.mod_self, Nat.div_self hB, Nat.div_eq_of_lt h1]; simp; omega
    · rw [if_neg h1]
      have hq : 0 < r / f.binade := Nat.div_pos (by omega) hB
      have hd := Nat.div_add_mod r f.binade
      have hm := Nat.mod_lt r hB
      by_cases h2 : r % f.binade + 1 = f.binade
      · have e1 : r + 1 = f.binade * (r / f.binade + 1) := by rw [Nat.mul_add]; omega
        have e2 : (r + 1) % f.binade = 0 := by rw [e1]; exact Nat.mul_mod_right _ _
        have e3 : (r + 1) / f.binade = r / f.binade + 1 := by
          conv => lhs; rw [e1]
          exact Nat.mul_div_cancel_left _ hB
        rw [e2, e3]
        obtain ⟨q, hq'⟩ : ∃ q, r / f.binade = q + 1 := ⟨r / f.binade - 1, by omega⟩
        rw [hq']
        simp only [Nat.add_sub_cancel, Nat.add_zero]
        have : r % f.binade = f.binade - 1 := by omega
        rw [this, Nat.pow_succ]
        have hsub : f.binade + (f.binade - 1) = 2 * f.binade - 1 := by omega
        rw [hsub]
        have hp := two_pow_pos q
        have : (2 * f.binade - 1) * 2 ^ q + 2 ^ q = 2 * f.binade * 2 ^ q := by
          rw [← Nat.succ_mul]; congr 1; omega
        rw [this, Nat.mul_comm (2 ^ q) 2, ← Nat.mul_assoc, Nat.mul_comm f.binade 2]
      · have e1 : r + 1 = f.binade * (r / f.binade) + (r % f.binade + 1) := by omega
        have hlt : r % f.binade + 1 < f.binade := by omega
        have e2 : (r + 1) % f.binade = r % f.binade + 1 := by
          conv => lhs; rw [e1]
          rw [Nat.mul_add_mod, Nat.mod_eq_of_lt hlt]
        have e3 : (r + 1) / f.binade = r / f.binade := by
          conv => lhs; rw [e1]
          rw [Nat.mul_add_div hB, Nat.div_eq_of_lt hlt, Nat.add_zero]
        rw [e2, e3, ← Nat.add_assoc, Nat.succ_mul]
theorem mag_mono_lt {r r' : Nat} (h : r < r') : mag f r < mag f r' := by
  induction r' with
  | zero => omega
  | succ n ih =>
    have hs := step_pos f n
    rw [mag_succ]
    by_cases e : r = n
    · subst e; omega
    · have := ih (by omega); omega
theorem mag_mono {r r' : Nat} (h : r ≤ r') : mag f r ≤ mag f r' := by
  by_cases e : r = r'
  · subst e; exact Nat.le_refl _
  · exact Nat.le_of_lt (mag_mono_lt f (by omega))
theorem mag_lt_iff {r r' : Nat} : mag f r < mag f r' ↔ r < r' := by
  constructor
  · intro h
    by_cases e : r < r'
    · exact e
    · have := mag_mono f (show r' ≤ r by omega); omega
  · exact mag_mono_lt f
theorem mag_inj {r r' : Nat} : mag f r = mag f r' ↔ r = r' := by
  constructor
  · intro h
    rcases Nat.lt_trichotomy r r' with e | e | e
    · have := mag_mono_lt f e; omega
    · exact e
    · have := mag_mono_lt f e; omega
  · intro h; rw [h]
theorem le_mag (r : Nat) : r ≤ mag f r := by
  induction r with
  | zero => exact Nat.zero_le _
  | succ n ih => have := step_pos f n; rw [mag_succ]; omega
theorem floor_exists (m g : Nat) (hg : 0 < g) : ∃ r, mag f r * g ≤ m ∧ m < mag f (r + 1) * g := by
  have key : ∀ n, m < mag f n * g → ∃ r, mag f r * g ≤ m ∧ m < mag f (r + 1) * g := by
    intro n
    induction n with
    | zero => intro h; rw [mag_zero] at h; omega
    | succ n ih =>
      intro h
      by_cases h1 : m < mag f n * g
      · exact ih h1
      · exact ⟨n, by omega, h⟩
  refine key (m + 1) ?_
  have h1 := le_mag f (m + 1)
  have h2 : mag f (m + 1) * 1 ≤ mag f (m + 1) * g := Nat.mul_le_mul_left _ hg
  omega
theorem binade_even (hF : 1 ≤ f.fractionBits) : f.binade % 2 = 0 := by
  unfold Format.binade
  obtain ⟨k, hk⟩ : ∃ k, f.fractionBits = k + 1 := ⟨f.fractionBits - 1, by omega⟩
  rw [hk, Nat.pow_succ]; omega
theorem grid_between (hF : 1 ≤ f.fractionBits) (r s x : Nat) (hx : x < step f r * 2 ^ s) :
    grid f (mag f r * 2 ^ s + x) s = r + (if step f r * 2 ^ s < 2 * x ∨ (step f r * 2 ^ s = 2 * x ∧ r % 2 = 1) then 1 else 0) := by
  have hB := binade_pos f
  have hB2 := binade_even f hF
  have hs := two_pow_pos s
  by_cases h : r < f.binade
  · have hst : step f r = 1 := by unfold step; rw [Nat.div_eq_of_lt h]
    rw [hst, Nat.one_mul] at hx ⊢
    rw [mag_lt f r h]
    have hlt : r * 2 ^ s + x < f.binade * 2 ^ s := by
      have : (r + 1) * 2 ^ s ≤ f.binade * 2 ^ s := Nat.mul_le_mul_right _ (by omega)
      rw [Nat.succ_mul] at this; omega
    have hl : (r * 2 ^ s + x).log2 - f.fractionBits ≤ s := by
      by_cases h0 : r * 2 ^ s + x = 0
      · rw [h0]; simp
      · have : (r * 2 ^ s + x).log2 < f.fractionBits + s := by
          rw [Nat.log2_lt h0, Nat.pow_add]; exact hlt
        omega
    unfold grid
    rw [Nat.max_eq_right hl, Nat.sub_self, Nat.zero_mul, Nat.zero_add]
    unfold rne
    have e1 : (r * 2 ^ s + x) / 2 ^ s = r := by
      rw [Nat.mul_comm, Nat.mul_add_div hs, Nat.div_eq_of_lt hx, Nat.add_zero]
    have e2 : (r * 2 ^ s + x) % 2 ^ s = x := by
      rw [Nat.mul_comm, Nat.mul_add_mod, Nat.mod_eq_of_lt hx]
    rw [e1, e2]
  · have hq : 0 < r / f.binade := Nat.div_pos (by omega) hB
    have hd := Nat.div_add_mod r f.binade
    have hm := Nat.mod_lt r hB
    obtain ⟨q, hq'⟩ : ∃ q, r / f.binade = q + 1 := ⟨r / f.binade - 1, by omega⟩
    have hst : step f r = 2 ^ q := by unfold step; rw [hq']; rfl
    have hmag : mag f r = (f.binade + r % f.binade) * 2 ^ q := by rw [mag_eq, if_neg h, hst]
    generalize hc : f.binade + r % f.binade = c at hmag
    rw [hst, ← Nat.pow_add] at hx ⊢
    rw [hmag, Nat.mul_assoc, ← Nat.pow_add]
    have hp := two_pow_pos (q + s)
    have hlo : f.binade * 2 ^ (q + s) ≤ c * 2 ^ (q + s) + x := by
      have : f.binade * 2 ^ (q + s) ≤ c * 2 ^ (q + s) := Nat.mul_le_mul_right _ (by omega)
      omega
    have hhi : c * 2 ^ (q + s) + x < 2 * f.binade * 2 ^ (q + s) := by
      have : (c + 1) * 2 ^ (q + s) ≤ 2 * f.binade * 2 ^ (q + s) := Nat.mul_le_mul_right _ (by omega)
      rw [Nat.succ_mul] at this; omega
    have hl : (c * 2 ^ (q + s) + x).log2 = f.fractionBits + (q + s) := by
      have h0 : c * 2 ^ (q + s) + x ≠ 0 := by
        have : 0 < f.binade * 2 ^ (q + s) := Nat.mul_pos hB hp
        omega
      rw [Nat.log2_eq_iff h0]
      constructor
      · rw [Nat.pow_add]; exact hlo
      · have : 2 ^ (f.fractionBits + (q + s) + 1) = 2 * f.binade * 2 ^ (q + s) := by
          rw [Nat.pow_succ, Nat.pow_add]; unfold Format.binade
          rw [Nat.mul_comm _ 2, Nat.mul_assoc]
        rw [this]; exact hhi
    unfold grid
    rw [hl]
    have e0 : max (f.fractionBits + (q + s) - f.fractionBits) s = q + s := by omega
    rw [e0]
    unfold rne
    have e1 : (c * 2 ^ (q + s) + x) / 2 ^ (q + s) = c := by
      rw [Nat.mul_comm, Nat.mul_add_div hp, Nat.div_eq_of_lt hx, Nat.add_zero]
    have e2 : (c * 2 ^ (q + s) + x) % 2 ^ (q + s) = x := by
      rw [Nat.mul_comm, Nat.mul_add_mod, Nat.mod_eq_of_lt hx]
    rw [e1, e2]
    have e3 : c % 2 = r % 2 := by
      have h1 : (f.binade * (r / f.binade)) % 2 = 0 := by rw [Nat.mul_mod, hB2]; simp
      omega
    have e4 : (q + s - s) * f.binade + c = r := by
      have : q + s - s = q := by omega
      rw [this, ← hc]
      have : f.binade * (r / f.binade) = q * f.binade + f.binade := by rw [hq', Nat.mul_comm, Nat.succ_mul]
      omega
    rw [e3, ← Nat.add_assoc, e4]
theorem grid_mag (hF : 1 ≤ f.fractionBits) (r s : Nat) : grid f (mag f r * 2 ^ s) s = r := by
  have hpos : 0 < step f r * 2 ^ s := Nat.mul_pos (step_pos f r) (two_pow_pos s)
  have := grid_between f hF r s 0 hpos
  rw [Nat.add_zero] at this
  rw [this, if_neg (by omega)]; rfl
end Go.Proofs.YtjmaggfddinbkaaGreatDoor.Fp
namespace Go.Proofs.YtjmaggfddinbkaaGreatDoor.Fp
open Ieee
variable (f : Format)
def sg (w : Nat) : Bool := w / f.signWeight % 2 == 1
def rg (w : Nat) : Nat := w % f.signWeight
def un (w : Nat) : Int := if sg f w then -(mag f (rg f w) : Int) else mag f (rg f w)
def key (w : Nat) : Int := if sg f w then -(rg f w : Int) else rg f w
theorem weight_pos : 0 < f.signWeight := two_pow_pos _
theorem inf_lt : f.infRung < f.signWeight := by
  have h : 0 < 2 ^ f.exponentBits := two_pow_pos _
  have hb := binade_pos f
  have e : f.infRung + f.binade = f.signWeight := by
    unfold Format.infRung Format.signWeight
    rw [Nat.pow_add, ← Nat.succ_mul]
    exact congrArg (· * f.binade) (by omega)
  omega
theorem width_eq : 2 ^ f.width = 2 * f.signWeight := by
  unfold Format.width Format.signWeight
  rw [Nat.add_assoc, Nat.add_comm 1, Nat.pow_succ, Nat.mul_comm]
theorem sg_word (neg : Bool) (r : Nat) (h : r < f.signWeight) : sg f (f.word neg r) = neg := by
  have hp := weight_pos f
  unfold sg Format.word
  cases neg
  · simp [Nat.div_eq_of_lt h]
  · simp only [if_true]
    rw [show f.signWeight + r = f.signWeight * 1 + r by omega, Nat.mul_add_div hp, Nat.div_eq_of_lt h]; rfl
theorem rg_word (neg : Bool) (r : Nat) (h : r < f.signWeight) : rg f (f.word neg r) = r := by
  unfold rg Format.word
  cases neg
  · simp [Nat.mod_eq_of_lt h]
  · simp [Nat.mod_eq_of_lt h]
theorem word_sg_rg (w : Nat) (h : w < 2 ^ f.width) : f.word (sg f w) (rg f w) = w := by
  have hp := weight_pos f
  rw [width_eq] at h
  unfold sg rg Format.word
  by_cases h1 : w < f.signWeight
  · rw [Nat.div_eq_of_lt h1, Nat.mod_eq_of_lt h1]; rfl
  · have e : w = f.signWeight * 1 + (w - f.signWeight) := by omega
    have hlt : w - f.signWeight < f.signWeight := by omega
    have e1 : w / f.signWeight = 1 := by
      conv => lhs; rw [e]
      rw [Nat.mul_add_div hp, Nat.div_eq_of_lt hlt]
    have e2 : w % f.signWeight = w - f.signWeight := by
      conv => lhs; rw [e]
      rw [Nat.mul_add_mod, Nat.mod_eq_of_lt hlt]
    rw [e1, e2]; simp; omega
theorem read_fin (w : Nat) (h : rg f w < f.infRung) : ∃ m e, f.read w = .number (sg f w) m e ∧ f.leastPlace ≤ e ∧ m * 2 ^ (e - f.leastPlace).toNat = mag f (rg f w) := by
  unfold Format.read
  dsimp only
  have e0 : w % f.signWeight = rg f w := rfl
  rw [e0]
  by_cases h1 : rg f w < f.binade
  · rw [if_pos h1]
    exact ⟨_, _, rfl, Int.le_refl _, by rw [mag_lt f _ h1]; simp⟩
  · rw [if_neg h1, if_pos h]
    refine ⟨_, _, rfl, by omega, ?_⟩
    unfold mag
    rw [if_neg h1]
    congr 2
    omega
theorem read_inf (w : Nat) (h : rg f w = f.infRung) (hb : f.binade ≤ f.infRung) : f.read w = .infinity (sg f w) := by
  unfold Format.read
  dsimp only
  have e0 : w % f.signWeight = rg f w := rfl
  rw [e0, if_neg (by omega), if_neg (by omega), if_pos h]
  rfl
theorem read_nan (w : Nat) (h : f.infRung < rg f w) (hb : f.binade ≤ f.infRung) : f.read w = .nan (sg f w) (rg f w - f.infRung) := by
  unfold Format.read
  dsimp only
  have e0 : w % f.signWeight = rg f w := rfl
  rw [e0, if_neg (by omega), if_neg (by omega), if_neg (by omega)]
  rfl
theorem signed_units (s : Bool) (m : Nat) (e b l : Int) (hb : b ≤ e) (hl : l ≤ b) :
    signed s m (e - b).toNat * 2 ^ (b - l).toNat = if s then -((m * 2 ^ (e - l).toNat : Nat) : Int) else ((m * 2 ^ (e - l).toNat : Nat) : Int) := by
  have hpow : (e - l).toNat = (e - b).toNat + (b - l).toNat := by omega
  unfold signed
  rw [hpow, Nat.pow_add, ← Nat.mul_assoc, shiftLeft_eq]
  cases s
  · simp
  · simp [Int.neg_mul]
theorem un_of_read {w : Nat} {m : Nat} {e : Int} (h2 : m * 2 ^ (e - f.leastPlace).toNat = mag f (rg f w)) :
    un f w = if sg f w then -((m * 2 ^ (e - f.leastPlace).toNat : Nat) : Int) else ((m * 2 ^ (e - f.leastPlace).toNat : Nat) : Int) := by
  rw [h2]; rfl
theorem compare_scale (a b : Int) (k : Nat) : compare (a * 2 ^ k) (b * 2 ^ k) = compare a b := by
  have hp : (0 : Int) < 2 ^ k := by exact_mod_cast two_pow_pos k
  simp only [compare, compareOfLessAndEq]
  have e1 : (a * 2 ^ k < b * 2 ^ k) ↔ a < b := ⟨fun h => Int.lt_of_mul_lt_mul_right h (Int.le_of_lt hp), fun h => Int.mul_lt_mul_of_pos_right h hp⟩
  have e2 : (a * 2 ^ k = b * 2 ^ k) ↔ a = b := ⟨fun h => Int.eq_of_mul_eq_mul_right (by omega) h, fun h => by rw [h]⟩
  simp only [e1, e2]
theorem cmp_lt {a b : Int} (h : a < b) : compare a b = .lt := by simp [compare, compareOfLessAndEq, h]
theorem cmp_eq {a b : Int} (h : a = b) : compare a b = .eq := by subst h; simp [compare, compareOfLessAndEq]
theorem cmp_gt {a b : Int} (h : b < a) : compare a b = .gt := by
  have h1 : ¬ a < b := by omega
  have h2 : ¬ a = b := by omega
  simp [compare, compareOfLessAndEq, h1, h2]
theorem order_units (x y : Nat) (hx : rg f x < f.infRung) (hy : rg f y < f.infRung) : f.order x y = some (compare (un f x) (un f y)) := by
  obtain ⟨m, i, r1, l1, u1⟩ := read_fin f x hx
  obtain ⟨n, j, r2, l2, u2⟩ := read_fin f y hy
  unfold Format.order
  rw [r1, r2]
  show some (compare (signed (sg f x) m (i - min i j).toNat) (signed (sg f y) n (j - min i j).toNat)) = _
  rw [un_of_read f u1, un_of_read f u2]
  rw [← compare_scale _ _ (min i j - f.leastPlace).toNat, signed_units _ _ _ _ _ (by omega) (by omega), signed_units _ _ _ _ _ (by omega) (by omega)]
theorem un_lt_iff (x y : Nat) : un f x < un f y ↔ key f x < key f y := by
  have h1 := @mag_lt_iff f (rg f x) (rg f y)
  have h2 := @mag_lt_iff f (rg f y) (rg f x)
  have h3 := le_mag f (rg f x)
  have h4 := le_mag f (rg f y)
  have h5 : rg f x = 0 → mag f (rg f x) = 0 := fun h => by rw [h, mag_zero]
  have h6 : rg f y = 0 → mag f (rg f y) = 0 := fun h => by rw [h, mag_zero]
  unfold un key
  cases sg f x <;> cases sg f y <;> simp <;> omega
theorem un_eq_iff (x y : Nat) : un f x = un f y ↔ key f x = key f y := by
  have h1 := un_lt_iff f x y
  have h2 := un_lt_iff f y x
  omega
theorem order_key (hb : f.binade ≤ f.infRung) (x y : Nat) (hx : rg f x ≤ f.infRung) (hy : rg f y ≤ f.infRung) : f.order x y = some (compare (key f x) (key f y)) := by
  have hB := binade_pos f
  by_cases h1 : rg f x < f.infRung
  · by_cases h2 : rg f y < f.infRung
    · rw [order_units f x y h1 h2]
      have a := un_lt_iff f x y
      have b := un_eq_iff f x y
      simp only [compare, compareOfLessAndEq, a, b]
    · have e2 : rg f y = f.infRung := by omega
      obtain ⟨m, i, r1, l1, u1⟩ := read_fin f x h1
      unfold Format.order
      rw [r1, read_inf f y e2 hb]
      show some (if sg f y then Ordering.gt else Ordering.lt) = _
      congr 1
      unfold key
      rw [e2]
      cases sg f x <;> cases sg f y <;> first | exact (cmp_lt (by simp; omega)).symm | exact (cmp_gt (by simp; omega)).symm
  · have e1 : rg f x = f.infRung := by omega
    by_cases h2 : rg f y < f.infRung
    · obtain ⟨m, i, r1, l1, u1⟩ := read_fin f y h2
      unfold Format.order
      rw [r1, read_inf f x e1 hb]
      show some (if sg f x then Ordering.lt else Ordering.gt) = _
      congr 1
      unfold key
      rw [e1]
      cases sg f x <;> cases sg f y <;> first | exact (cmp_lt (by simp; omega)).symm | exact (cmp_gt (by simp; omega)).symm
    · have e2 : rg f y = f.infRung := by omega
      unfold Format.order
      rw [read_inf f x e1 hb, read_inf f y e2 hb]
      show some (compare (sg f y).toNat (sg f x).toNat) = _
      congr 1
      unfold key
      rw [e1, e2]
      have hpos : 0 < f.infRung := by omega
      cases sg f x <;> cases sg f y <;> first | exact (cmp_lt (by simp; omega)).symm | exact (cmp_gt (by simp; omega)).symm | exact (cmp_eq (by simp)).symm
theorem order_nan (hb : f.binade ≤ f.infRung) (x y : Nat) (h : f.infRung < rg f x ∨ f.infRung < rg f y) : f.order x y = none := by
  unfold Format.order
  rcases h with h | h
  · rw [read_nan f x h hb]; rfl
  · rw [read_nan f y h hb]
    cases f.read x <;> rfl
theorem sub_fin (x y : Nat) (hx : rg f x < f.infRung) (hy : rg f y < f.infRung) :
    f.sub x y = some (f.word (if un f x - un f y = 0 then sg f x && !sg f y else decide (un f x - un f y < 0)) (rung f (un f x - un f y).natAbs)) := by
  obtain ⟨m, i, r1, l1, u1⟩ := read_fin f x hx
  obtain ⟨n, j, r2, l2, u2⟩ := read_fin f y hy
  unfold Format.sub
  rw [r1, r2]
  show some (f.nearest _ _ _) = _
  generalize ht : signed (sg f x) m (i - min i j).toNat + signed (!sg f y) n (j - min i j).toNat = t
  have hneg : signed (!sg f y) n (j - min i j).toNat = - signed (sg f y) n (j - min i j).toNat := by
    unfold signed; cases sg f y <;> simp
  have hsum : un f x - un f y = t * 2 ^ (min i j - f.leastPlace).toNat := by
    rw [un_of_read f u1, un_of_read f u2, ← signed_units _ _ _ (min i j) _ (by omega) (by omega), ← signed_units _ _ _ (min i j) _ (by omega) (by omega), ← Int.sub_mul, ← ht, hneg, Int.sub_eq_add_neg]
  rw [nearest_units f _ _ _ (by omega), hsum]
  have hp : (0 : Int) < 2 ^ (min i j - f.leastPlace).toNat := by exact_mod_cast two_pow_pos _
  have e1 : (t * 2 ^ (min i j - f.leastPlace).toNat = 0) ↔ t = 0 := by
    constructor
    · intro h; rcases Int.mul_eq_zero.1 h with h | h
      · exact h
      · omega
    · intro h; rw [h, Int.zero_mul]
  have e2 : (t * 2 ^ (min i j - f.leastPlace).toNat < 0) ↔ t < 0 := by
    constructor
    · intro h
      by_cases h0 : t < 0
      · exact h0
      · have := Int.mul_nonneg (show 0 ≤ t by omega) (Int.le_of_lt hp); omega
    · intro h; exact Int.mul_neg_of_neg_of_pos h hp
  have e3 : (t * 2 ^ (min i j - f.leastPlace).toNat).natAbs = t.natAbs * 2 ^ (min i j - f.leastPlace).toNat := by
    rw [Int.natAbs_mul, Int.natAbs_pow]; rfl
  simp only [e1, e2, e3]
def deep : Nat := (-f.leastPlace).toNat
theorem nearest_deep (neg : Bool) (m : Nat) (e : Int) (s : Nat) (he : f.leastPlace - s ≤ e) : f.nearest neg m e = f.word neg (min (grid f (m * 2 ^ (e - (f.leastPlace - s)).toNat) s) f.infRung) := by
  by_cases h : f.leastPlace ≤ e
  · rw [nearest_units f neg m e h]
    unfold rung
    have : (e - (f.leastPlace - s)).toNat = (e - f.leastPlace).toNat + s := by omega
    rw [this, Nat.pow_add, ← Nat.mul_assoc]
    have g := grid_shift f (m * 2 ^ (e - f.leastPlace).toNat) s 0
    rw [Nat.zero_add] at g
    rw [g]
  · obtain ⟨k, hk⟩ := Int.eq_ofNat_of_zero_le (show 0 ≤ f.leastPlace - e by omega)
    have he' : e = f.leastPlace - k := by omega
    rw [he', nearest_below f neg m k]
    have hks : k ≤ s := by omega
    have : (f.leastPlace - k - (f.leastPlace - s)).toNat = s - k := by omega
    rw [this]
    have g := grid_shift f m (s - k) k
    rw [show k + (s - k) = s by omega] at g
    rw [g]
theorem mul_fin (hl : f.leastPlace ≤ 0) (x y : Nat) (hx : rg f x < f.infRung) (hy : rg f y < f.infRung) :
    f.mul x y = some (f.word (sg f x ^^ sg f y) (min (grid f (mag f (rg f x) * mag f (rg f y)) (deep f)) f.infRung)) := by
  obtain ⟨m, i, r1, l1, u1⟩ := read_fin f x hx
  obtain ⟨n, j, r2, l2, u2⟩ := read_fin f y hy
  unfold Format.mul
  rw [r1, r2]
  show some (f.nearest _ _ _) = _
  have hd : ((deep f : Nat) : Int) = - f.leastPlace := by unfold deep; omega
  rw [nearest_deep f _ _ _ (deep f) (by omega), ← u1, ← u2]
  have : (i + j - (f.leastPlace - (deep f : Nat))).toNat = (i - f.leastPlace).toNat + (j - f.leastPlace).toNat := by omega
  rw [this, Nat.pow_add]
  have : m * n * (2 ^ (i - f.leastPlace).toNat * 2 ^ (j - f.leastPlace).toNat) = m * 2 ^ (i - f.leastPlace).toNat * (n * 2 ^ (j - f.leastPlace).toNat) := by
    rw [Nat.mul_mul_mul_comm]
  rw [this]
end Go.Proofs.YtjmaggfddinbkaaGreatDoor.Fp
namespace Go.Proofs.YtjmaggfddinbkaaGreatDoor.Fp
open Ieee
theorem dB : double.binade = 4503599627370496 := by decide
theorem dS : double.signWeight = 9223372036854775808 := by decide
theorem dI : double.infRung = 9218868437227405312 := by decide
theorem dD : deep double = 1074 := by decide
theorem dF : 1 ≤ double.fractionBits := by decide
theorem dBI : double.binade ≤ double.infRung := by decide
theorem dL0 : double.leastPlace ≤ 0 := by decide
theorem sB : single.binade = 8388608 := by decide
def isNaN64 (b : Nat) : Bool := decide (9218868437227405312 < b % 9223372036854775808)
theorem rg64 (b : Nat) : rg double b = b % 9223372036854775808 := by unfold rg; rw [dS]
theorem sg64 (b : Nat) : sg double b = (b / 9223372036854775808 % 2 == 1) := by unfold sg; rw [dS]
theorem nan64_iff (b : Nat) : isNaN64 b = true ↔ double.infRung < rg double b := by unfold isNaN64; rw [dI, rg64]; simp
theorem order64_nan (x y : Nat) (h : isNaN64 x = true ∨ isNaN64 y = true) : double.order x y = none :=
  order_nan double dBI x y (h.imp (nan64_iff x).1 (nan64_iff y).1)
def key64 (b : Nat) : Int := if b / 9223372036854775808 % 2 = 1 then -((b % 9223372036854775808 : Nat) : Int) else ((b % 9223372036854775808 : Nat) : Int)
theorem key_double (b : Nat) : key double b = key64 b := by unfold key key64; rw [sg64, rg64]; simp
theorem order64 (x y : Nat) (hx : isNaN64 x = false) (hy : isNaN64 y = false) : double.order x y = some (compare (key64 x) (key64 y)) := by
  have h1 := nan64_iff x
  have h2 := nan64_iff y
  rw [hx] at h1; rw [hy] at h2
  simp at h1 h2
  rw [order_key double dBI x y (by omega) (by omega), key_double, key_double]
theorem order64_self (x : Nat) : (double.order x x == some .eq) = !isNaN64 x := by
  cases h : isNaN64 x
  · rw [order64 x x h h, cmp_eq rfl]; rfl
  · rw [order64_nan x x (.inl h)]; rfl
theorem eq64 (x y : Nat) (hx : isNaN64 x = false) (hy : isNaN64 y = false) : (double.order x y == some .eq) = decide (key64 x = key64 y) := by
  rw [order64 x y hx hy]
  rcases Int.lt_trichotomy (key64 x) (key64 y) with h | h | h
  · rw [cmp_lt h, decide_eq_false (by omega)]; rfl
  · rw [cmp_eq h, decide_eq_true h]; rfl
  · rw [cmp_gt h, decide_eq_false (by omega)]; rfl
theorem lt64 (x y : Nat) (hx : isNaN64 x = false) (hy : isNaN64 y = false) : (double.order x y == some .lt) = decide (key64 x < key64 y) := by
  rw [order64 x y hx hy]
  rcases Int.lt_trichotomy (key64 x) (key64 y) with h | h | h
  · rw [cmp_lt h, decide_eq_true h]; rfl
  · rw [cmp_eq h, decide_eq_false (by omega)]; rfl
  · rw [cmp_gt h, decide_eq_false (by omega)]; rfl
theorem gt64 (x y : Nat) (hx : isNaN64 x = false) (hy : isNaN64 y = false) : (double.order x y == some .gt) = decide (key64 y < key64 x) := by
  rw [order64 x y hx hy]
  rcases Int.lt_trichotomy (key64 x) (key64 y) with h | h | h
  · rw [cmp_lt h, decide_eq_false (by omega)]; rfl
  · rw [cmp_eq h, decide_eq_false (by omega)]; rfl
  · rw [cmp_gt h, decide_eq_true h]; rfl
end Go.Proofs.YtjmaggfddinbkaaGreatDoor.Fp
end

section
namespace Go.Proofs.YtjmaggfddinbkaaGreatDoor
open Go.RowKit
abbrev dbl : Value := .agg #[.int .u64 52, .int .i64 2047, .int .i64 1075]
def nanD (b : Nat) : Bool := decide (9218868437227405312 < b % 9223372036854775808)
def canonD (b : Nat) : Nat := if nanD b then 9221120237041090561 else b
theorem canonD_lt {b : Nat} (h : b < 18446744073709551616) : canonD b < 18446744073709551616 := by unfold canonD; split <;> omega
set_option maxHeartbeats 400000 in
theorem hidden_D (w : World) : Calls Tryz.prog 167 #[dbl] w fun e w' => e = .returned (.int .u64 4503599627370496) ∧ Within w w' := by
  go_enter Tryz.func167, Tryz.ntmps167
  go_wp2
  go_ret
  exact ⟨rfl, (Within.refl _).alloc _⟩
set_option maxHeartbeats 400000 in
theorem sign_D (w : World) : Calls Tryz.prog 175 #[dbl] w fun e w' => e = .returned (.int .u64 9223372036854775808) ∧ Within w w' := by
  go_enter Tryz.func175, Tryz.ntmps175
  go_wp2
  go_ret
  exact ⟨rfl, (Within.refl _).alloc _⟩
set_option maxHeartbeats 400000 in
theorem infinite_D (w : World) : Calls Tryz.prog 176 #[dbl] w fun e w' => e = .returned (.int .u64 9218868437227405312) ∧ Within w w' := by
  go_enter Tryz.func176, Tryz.ntmps176
  go_wp2
  go_ret
  exact ⟨rfl, (Within.refl _).alloc _⟩
set_option maxHeartbeats 400000 in
theorem none_D (w : World) : Calls Tryz.prog 163 #[dbl] w fun e w' => e = .returned (.int .u64 9221120237041090561) ∧ Within w w' := by
  go_enter Tryz.func163, Tryz.ntmps163
  go_wp2
  refine wp_region_within (by kernel_rfl) (by kernel_rfl) ?_
  repeat
    apply wpq_step rfl
    · intro wq hCq
      have hcq := hCq.cells
      go_simp
      first | rfl | exact hCq.call (infinite_D _) | exact hCq.call (hidden_D _) | (trace_state; fail)
    simp only [Act.put, List.setIfInBounds_toArray, List.set_cons_zero, List.set_cons_succ]
  refine wpQuiet_nil ?_
  intro w1 hC1
  go_wp2
  go_ret
  exact ⟨ret_int (by decide +kernel), (by repeat (first | exact Within.refl _ | assumption | refine Within.alloc ?_ _ | refine Within.drew ?_ | refine Within.trans ?_ (by assumption)))⟩
set_option maxHeartbeats 400000 in
theorem nan_D (b : Nat) (hb : b < 18446744073709551616) (w : World) : Calls Tryz.prog 162 #[.int .u64 b, dbl] w fun e w' => e = .returned (.bool (nanD b)) ∧ Within w w' := by
  have e1 := u64_unsign b hb
  have ew : IntKind.u64.wrap (b : Int) = b := by rw [IntKind.wrap_u64]; omega
  go_enter Tryz.func162, Tryz.ntmps162
  go_wp2
  refine wp_region_within (by kernel_rfl) (by kernel_rfl) ?_
  repeat
    apply wpq_step rfl
    · intro wq hCq
      have hcq := hCq.cells
      go_simp
      first | rfl | exact hCq.call (infinite_D _) | exact hCq.call (sign_D _) | (trace_state; fail)
    simp only [Act.put, List.setIfInBounds_toArray, List.set_cons_zero, List.set_cons_succ]
  refine wpQuiet_nil ?_
  intro w1 hC1
  go_wp2
  go_ret
  exact ⟨ret_dec (by omega), (by repeat (first | exact Within.refl _ | assumption | refine Within.alloc ?_ _ | refine Within.drew ?_ | refine Within.trans ?_ (by assumption)))⟩
set_option maxHeartbeats 400000 in
theorem canon_D (b : Nat) (hb : b < 18446744073709551616) (w : World) : Calls Tryz.prog 141 #[.int .u64 b, dbl] w fun e w' => e = .returned (.int .u64 (canonD b)) ∧ Within w w' := by
  by_cases hn : nanD b = true
  · have hv : (canonD b : Int) = 9221120237041090561 := by unfold canonD; rw [if_pos hn]; rfl
    rw [hv]; clear hv
    go_enter Tryz.func141, Tryz.ntmps141
    go_wp2_with fail
    refine (nan_D b hb _).mono ?_; rintro e w1 ⟨rfl, hb1⟩
    have hc1 := hb1.cells; have hz1 : w.heap.size < w1.heap.size := by have := hb1.sizes; simp at this; omega
    go_wp2_with fail
    refine (none_D _).mono ?_; rintro e w2 ⟨rfl, hb2⟩
    go_wp2
    go_ret
    exact ⟨rfl, (by repeat (first | exact Within.refl _ | assumption | refine Within.alloc ?_ _ | refine Within.drew ?_ | refine Within.trans ?_ (by assumption)))⟩
  · have hn' : nanD b = false := by simpa using hn
    have hv : (canonD b : Int) = b := by unfold canonD; rw [if_neg hn]
    rw [hv]; clear hv hn
    go_enter Tryz.func141, Tryz.ntmps141
    go_wp2_with fail
    refine (nan_D b hb _).mono ?_; rintro e w1 ⟨rfl, hb1⟩
    have hc1 := hb1.cells; have hz1 : w.heap.size < w1.heap.size := by have := hb1.sizes; simp at this; omega
    go_wp2
    go_ret
    exact ⟨rfl, (by repeat (first | exact Within.refl _ | assumption | refine Within.alloc ?_ _ | refine Within.drew ?_ | refine Within.trans ?_ (by assumption)))⟩
@[go_sem] theorem ext_bits64 (a : Nat) (w : World) : (callFunc 63 #[.float .f64 a]).run Tryz.prog w = .ok (.value (.int .u64 a)) w := by kernel_rfl
@[go_sem] theorem ext_from64 (a : Int) (w : World) : (callFunc 68 #[.int .u64 a]).run Tryz.prog w = .ok (.value (.float .f64 a.toNat)) w := by kernel_rfl
set_option maxRecDepth 100000 in
set_option maxHeartbeats 600000 in
theorem of_D (w : World) : Calls Tryz.prog 142 #[.int .i64 0] w fun e w' => e = .returned dbl ∧ Within w w' := by
  go_enter Tryz.func142, Tryz.ntmps142
  have hi : ∀ w, (Instr.index 164 (.agg #[.int .u64 52, .int .i64 2047, .int .i64 1075, .int .u64 23, .int .i64 255, .int .i64 150]) (.int .i64 0)).run Tryz.prog w = .ok dbl w := fun _ => by kernel_rfl
  go_wp2
  refine bodyPost_ret (v := dbl) (by simp [results, Tryz.results142, go_sem]) rfl ⟨rfl, ?_⟩
  exact (by repeat (first | with_reducible exact Within.refl _ | with_reducible assumption | with_reducible refine Within.alloc ?_ _ | with_reducible refine Within.drew ?_ | with_reducible refine Within.setCell ?_ (by first | (simp; done) | (simp; omega)) _ | with_reducible refine Within.trans ?_ (by assumption)))
set_option maxRecDepth 100000 in
set_option maxHeartbeats 600000 in
theorem Canon_D (a : Nat) (ha : a < 18446744073709551616) (w : World) : Calls Tryz.prog 109 #[.float .f64 a] w fun e w' => e = .returned (.float .f64 (canonD a)) ∧ Within w w' := by
  have HA := Lib.hid ha; clear ha
  go_enter Tryz.func109, Tryz.ntmps109
  go_wp2_with fail
  refine (of_D _).mono ?_; rintro e1 w1 ⟨rfl, hb1⟩
  go_wp2_with fail
  refine (canon_D a HA.out _).mono ?_; rintro e2 w2 ⟨rfl, hb2⟩
  go_wp2
  go_ret
  exact ⟨rfl, (by repeat (first | with_reducible exact Within.refl _ | with_reducible assumption | with_reducible refine Within.alloc ?_ _ | with_reducible refine Within.drew ?_ | with_reducible refine Within.setCell ?_ (by first | (simp; done) | (simp; omega)) _ | with_reducible refine Within.trans ?_ (by assumption)))⟩
end Go.Proofs.YtjmaggfddinbkaaGreatDoor
end

section
namespace Go.Proofs.YtjmaggfddinbkaaGreatDoor
open Go.RowKit
theorem len8_size : Lib.len8tab.size = 256 := by decide +kernel
theorem len8_all : ∀ n : Fin 256, (Lib.len8tab[n.val]'(by rw [len8_size]; exact n.isLt)).toNat = Lib.bitLen n.val := by decide +kernel
theorem len8_at (n : Nat) (h : n < Lib.len8tab.size) : (Lib.len8tab[n]).toNat = Lib.bitLen n := len8_all ⟨n, by rw [len8_size] at h; exact h⟩
theorem len_end (s x : Nat) (hs : s ≤ 56) (h : 2 ^ s ≤ x) (hx : x < 2 ^ (s + 8)) : wrap64 ((s : Int) + wrap64 ((Lib.bitLen (x / 2 ^ s) : Nat) : Int)) = ((Lib.bitLen x : Nat) : Int) := by
  have hp := Nat.two_pow_pos s
  have h64 : x < 2 ^ 64 := Nat.lt_of_lt_of_le hx (Nat.pow_le_pow_right (by decide) (by omega))
  have e := Lib.bitLen_shift s x h h64
  have hq : x / 2 ^ s < 256 := by
    rw [Nat.div_lt_iff_lt_mul hp]
    have : 2 ^ (s + 8) = 256 * 2 ^ s := by rw [Nat.pow_add, Nat.mul_comm]
    omega
  have l := Lib.bitLen_le8 ⟨x / 2 ^ s, hq⟩
  simp only at l
  rw [e]
  generalize Lib.bitLen (x / 2 ^ s) = r at *
  rw [IntWalk.wrap64_in (r : Int) (by constructor <;> omega), IntWalk.wrap64_in _ (by constructor <;> omega)]
  simp
theorem len_e56 (x : Nat) (h : 72057594037927936 ≤ x) (hx : x < 18446744073709551616) : wrap64 (56 + wrap64 ((Lib.bitLen (x / 72057594037927936) : Nat) : Int)) = ((Lib.bitLen x : Nat) : Int) := len_end 56 x (by decide) h hx
theorem len_e48 (x : Nat) (h : 281474976710656 ≤ x) (hx : x < 72057594037927936) : wrap64 (48 + wrap64 ((Lib.bitLen (x / 281474976710656) : Nat) : Int)) = ((Lib.bitLen x : Nat) : Int) := len_end 48 x (by decide) h hx
theorem len_e40 (x : Nat) (h : 1099511627776 ≤ x) (hx : x < 281474976710656) : wrap64 (40 + wrap64 ((Lib.bitLen (x / 1099511627776) : Nat) : Int)) = ((Lib.bitLen x : Nat) : Int) := len_end 40 x (by decide) h hx
theorem len_e32 (x : Nat) (h : 4294967296 ≤ x) (hx : x < 1099511627776) : wrap64 (32 + wrap64 ((Lib.bitLen (x / 4294967296) : Nat) : Int)) = ((Lib.bitLen x : Nat) : Int) := len_end 32 x (by decide) h hx
theorem len_e24 (x : Nat) (h : 16777216 ≤ x) (hx : x < 4294967296) : wrap64 (24 + wrap64 ((Lib.bitLen (x / 16777216) : Nat) : Int)) = ((Lib.bitLen x : Nat) : Int) := len_end 24 x (by decide) h hx
theorem len_e16 (x : Nat) (h : 65536 ≤ x) (hx : x < 16777216) : wrap64 (16 + wrap64 ((Lib.bitLen (x / 65536) : Nat) : Int)) = ((Lib.bitLen x : Nat) : Int) := len_end 16 x (by decide) h hx
theorem len_e8 (x : Nat) (h : 256 ≤ x) (hx : x < 65536) : wrap64 (8 + wrap64 ((Lib.bitLen (x / 256) : Nat) : Int)) = ((Lib.bitLen x : Nat) : Int) := len_end 8 x (by decide) h hx
theorem len_e0 (x : Nat) (hx : x < 256) : wrap64 (0 + wrap64 ((Lib.bitLen x : Nat) : Int)) = ((Lib.bitLen x : Nat) : Int) := by
  have l := Lib.bitLen_le8 ⟨x, hx⟩
  simp only at l
  generalize Lib.bitLen x = r at *
  rw [IntWalk.wrap64_in (r : Int) (by constructor <;> omega), IntWalk.wrap64_in _ (by constructor <;> omega)]
  simp
set_option maxHeartbeats 1000000 in
set_option maxRecDepth 100000 in
theorem bits_len64' (x : Int) (w : World) (h0 : 0 ≤ x) (h1 : x ≤ 18446744073709551615) :
    Calls Tryz.prog 170 #[.int .u64 x] w fun e w' => e = .returned (.int .i64 (Lib.bitLen x.toNat)) ∧ w = w' := by
  have hsz := len8_size
  go_enter Tryz.func170, Tryz.ntmps170
  go_wp2
  all_goals (go_ret; refine ⟨ret_int ?_, rfl⟩)
  all_goals simp only [len8_at]
  · rw [← len_e56 x.toNat (by omega) (by omega), show (x / 4294967296 / 65536 / 256).toNat = x.toNat / 72057594037927936 by omega]
  · rw [← len_e48 x.toNat (by omega) (by omega), show (x / 4294967296 / 65536).toNat = x.toNat / 281474976710656 by omega]
  · rw [← len_e40 x.toNat (by omega) (by omega), show (x / 4294967296 / 256).toNat = x.toNat / 1099511627776 by omega]
  · rw [← len_e32 x.toNat (by omega) (by omega), show (x / 4294967296).toNat = x.toNat / 4294967296 by omega]
  · rw [← len_e24 x.toNat (by omega) (by omega), show (x / 65536 / 256).toNat = x.toNat / 16777216 by omega]
  · rw [← len_e16 x.toNat (by omega) (by omega), show (x / 65536).toNat = x.toNat / 65536 by omega]
  · rw [← len_e8 x.toNat (by omega) (by omega), show (x / 256).toNat = x.toNat / 256 by omega]
  · have := len_e0 x.toNat (by omega); simpa using this
theorem bits_len64 (x : Nat) (hx : x < 18446744073709551616) (w : World) :
    Calls Tryz.prog 170 #[.int .u64 x] w fun e w' => e = .returned (.int .i64 (Lib.bitLen x)) ∧ w = w' := by
  have := bits_len64' (x : Int) w (by omega) (by omega)
  rwa [Int.toNat_natCast] at this
theorem bitLen_of (k x : Nat) (hk : k < 64) (h1 : 2 ^ k ≤ x) (h2 : x < 2 ^ (k + 1)) : Lib.bitLen x = k + 1 := by
  have h64 : x < 2 ^ 64 := Nat.lt_of_lt_of_le h2 (Nat.pow_le_pow_right (by decide) (by omega))
  rw [Lib.bitLen_shift k x h1 h64]
  have hp := Nat.two_pow_pos k
  have e : x / 2 ^ k = 1 := by
    have a : 1 ≤ x / 2 ^ k := (Nat.le_div_iff_mul_le hp).2 (by omega)
    have b : x / 2 ^ k < 2 := (Nat.div_lt_iff_lt_mul hp).2 (by rw [Nat.pow_succ] at h2; omega)
    omega
  rw [e]; rfl
theorem bitLen_log2 (x : Nat) (h : x ≠ 0) (hx : x < 18446744073709551616) : Lib.bitLen x = x.log2 + 1 :=
  bitLen_of _ x ((Nat.log2_lt h).2 (by simpa using hx)) (Nat.log2_self_le h) Nat.lt_log2_self
theorem ctz_split (x : Nat) (h : x ≠ 0) (hx : x < 18446744073709551616) : ∃ m, x = 2 ^ Lib.ctz 64 x * (2 * m + 1) ∧ Lib.ctz 64 x < 64 := by
  have e : Lib.ctz 64 x = Lib.ctzFrom 64 x := by simp [Lib.ctz, h]
  rw [e]
  exact Lib.ctzFrom_spec 64 x (by omega) (by simpa using hx)
theorem shr_u64 (x k : Nat) (hk : k < 64) : Op.shift .shr .u64 (x : Int) .i64 (k : Int) = pure (.int .u64 ((x / 2 ^ k : Nat) : Int)) := by
  rw [shift_shr .u64 .i64 _ _ (by omega) (by show (k : Int) ≤ 64; omega)]
  simp
theorem shl_u64 (x k : Nat) (hk : k < 64) (h : x * 2 ^ k < 18446744073709551616) : Op.shift .shl .u64 (x : Int) .i64 (k : Int) = pure (.int .u64 ((x * 2 ^ k : Nat) : Int)) := by
  rw [shift_shl .u64 .i64 _ _ (by omega) (by show (k : Int) ≤ 64; omega), IntKind.wrap_u64]
  have e : (x : Int) * 2 ^ (k : Int).toNat = ((x * 2 ^ k : Nat) : Int) := by simp
  rw [e]
  generalize x * 2 ^ k = y at *
  rw [show ((y : Int) % 18446744073709551616) = y by omega]
end Go.Proofs.YtjmaggfddinbkaaGreatDoor
end

section
namespace Go.Proofs.YtjmaggfddinbkaaGreatDoor
open Go.RowKit
def Tab (w : World) : Prop := ∀ j, j < 64 → w.cell? ⟨2, j, none⟩ = some (.int .u8 (Lib.deBruijn64tab.getD j 0))
theorem Tab.of {w w' : World} (h : Tab w) (k : Within w w') : Tab w' := fun j hj => by
  rw [k.cells _ _ (World.block_lt_of_cell? w _ (h j hj))]
  exact h j hj
set_option maxHeartbeats 1000000 in
theorem tz64_core (x k idx : Nat) (w : World) (hx0 : ((x : Int) == 0) = false)
    (key : IntKind.u64.wrap (bits BinOp.and IntKind.u64 (x : Int) (IntKind.u64.wrap (-(x : Int))) * 285870213051353865) / 288230376151711744 = (idx : Int))
    (hi : idx < 64) (hk : k < 64) (hcell : w.cell? ⟨2, idx, none⟩ = some (.int .u8 k)) :
    Calls Tryz.prog 168 #[.int .u64 x] w fun e w' => e = .returned (.int .i64 k) ∧ w = w' := by
  go_enter Tryz.func168, Tryz.ntmps168
  go_wp2_with (simp only [key])
  go_ret
  exact ⟨rfl, rfl⟩
set_option maxHeartbeats 1000000 in
theorem tz64_zero (w : World) :
    Calls Tryz.prog 168 #[.int .u64 0] w fun e w' => e = .returned (.int .i64 64) ∧ w = w' := by
  go_enter Tryz.func168, Tryz.ntmps168
  go_wp2
  go_ret
  exact ⟨rfl, rfl⟩
theorem tz64_key (x a : Nat) (hx : x < 18446744073709551616) (hx0 : x ≠ 0) (hlow : x &&& (18446744073709551616 - x) = a) :
    IntKind.u64.wrap (bits BinOp.and IntKind.u64 (x : Int) (IntKind.u64.wrap (-(x : Int))) * 285870213051353865) / 288230376151711744 = ((a * 285870213051353865 % 18446744073709551616 / 288230376151711744 : Nat) : Int) := by
  have e1 : IntKind.u64.wrap (-(x : Int)) = ((18446744073709551616 - x : Nat) : Int) := by rw [IntKind.wrap_u64]; omega
  rw [e1, u64_and_nat x _ hx (by omega), hlow, IntKind.wrap_u64]
  omega
theorem bits_tz64 (x : Nat) (hx : x < 18446744073709551616) (w : World) (hT : Tab w) :
    Calls Tryz.prog 168 #[.int .u64 x] w fun e w' => e = .returned (.int .i64 (Lib.ctz 64 x)) ∧ w = w' := by
  by_cases hx0 : x = 0
  · subst hx0
    exact tz64_zero w
  · obtain ⟨hlow, hk⟩ := Lib.lowest_bit 64 x hx0 hx
    obtain ⟨hi, htab⟩ := Lib.deBruijn64_at _ hk
    have hcell := hT _ hi
    rw [htab] at hcell
    exact tz64_core x _ _ w (by simp; omega) (tz64_key x _ hx hx0 hlow) hi hk hcell
end Go.Proofs.YtjmaggfddinbkaaGreatDoor
end

section
namespace Go.Proofs.YtjmaggfddinbkaaGreatDoor
open Go.RowKit
def classOf (e fr most : Nat) : Int := if e = most ∧ fr ≠ 0 then 1 else if e = most then 2 else if e = 0 ∧ fr = 0 then 3 else if e = 0 then 4 else 5
def expD (b : Nat) : Nat := canonD b / 4503599627370496 % 2048
def fracD (b : Nat) : Nat := canonD b % 4503599627370496
def negD (b : Nat) : Bool := decide (9223372036854775808 ≤ canonD b)
def classD (b : Nat) : Int := classOf (expD b) (fracD b) 2047
set_option maxHeartbeats 400000 in
theorem split_D (b : Nat) (hb : b < 18446744073709551616) (w : World) : Calls Tryz.prog 166 #[.int .u64 b, dbl] w fun e w' => e = .returned (.tuple #[.bool (negD b), .int .i64 (expD b), .int .u64 (fracD b)]) ∧ Within w w' := by
  have hc := canonD_lt hb
  have e1 := u64_sign (canonD b) hc
  have e2 := u64_mask 11 (by decide) (canonD b / 4503599627370496) (by omega)
  have e3 := u64_mask 52 (by decide) (canonD b) (by omega)
  simp only [show (2 ^ 11 - 1 : Nat) = 2047 from rfl, show (2 ^ 11 : Nat) = 2048 from rfl, show (2 ^ 52 - 1 : Nat) = 4503599627370495 from rfl, show (2 ^ 52 : Nat) = 4503599627370496 from rfl, Int.natCast_ediv, Int.natCast_emod, Int.natCast_mul, Int.cast_ofNat_Int] at e1 e2 e3
  have ew : IntKind.u64.wrap (canonD b : Int) = canonD b := by rw [IntKind.wrap_u64]; omega
  have e4 : IntKind.u64.wrap 4503599627370495 = 4503599627370495 := by decide
  have e5 : IntKind.u64.wrap 2047 = 2047 := by decide
  have e6 : IntKind.i64.wrap ((canonD b : Int) / 4503599627370496 % 2048) = (canonD b : Int) / 4503599627370496 % 2048 := by rw [IntKind.wrap_i64]; omega
  have e7 : IntKind.u64.wrap ((canonD b : Int) % 4503599627370496) = (canonD b : Int) % 4503599627370496 := by first | (rw [IntKind.wrap_u64]; omega) | (rw [IntKind.wrap_u32]; omega)
  go_enter Tryz.func166, Tryz.ntmps166
  go_wp2_with fail
  refine (canon_D b hb _).mono ?_; rintro e w1 ⟨rfl, hb1⟩
  have hc1 := hb1.cells; have hz1 : w.heap.size < w1.heap.size := by have := hb1.sizes; simp at this; omega
  go_wp2
  refine wp_region_within (by kernel_rfl) (by kernel_rfl) ?_
  repeat
    apply wpq_step rfl
    · intro wq hCq
      have hcq := hCq.cells
      go_simp
      first | rfl | exact hCq.call (hidden_D _) | exact hCq.call (sign_D _) | (trace_state; fail)
    simp only [Act.put, List.setIfInBounds_toArray, List.set_cons_zero, List.set_cons_succ]
  refine wpQuiet_nil ?_
  intro w2 hC2
  go_wp2
  go_ret3
  refine ⟨ret3 (v_bool (b := negD b) ?_) (v_int (b := expD b) ?_) (v_int (b := fracD b) ?_), (by repeat (first | exact Within.refl _ | assumption | refine Within.alloc ?_ _ | refine Within.drew ?_ | refine Within.trans ?_ (by assumption)))⟩
  · show ((canonD b : Int) / 9223372036854775808 * 9223372036854775808 != 0) = negD b
    unfold negD
    rw [Bool.eq_iff_iff, bne_iff_ne, decide_eq_true_iff]; omega
  · show ((canonD b : Int) / 4503599627370496 % 2048) = _
    unfold expD; omega
  · show ((canonD b : Int) % 4503599627370496) = _
    unfold fracD; omega
set_option maxHeartbeats 400000 in
theorem class_D (b : Nat) (hb : b < 18446744073709551616) (w : World) : Calls Tryz.prog 147 #[.int .u64 b, dbl] w fun e w' => e = .returned (.int .i64 (classD b)) ∧ Within w w' := by
  generalize hce : classD b = c
  unfold classD classOf at hce
  by_cases h1 : expD b = 2047
  · have f1 : ((expD b : Int) == 2047) = true := beq_iff_eq.2 (by omega)
    by_cases h2 : fracD b = 0
    · have f2 : ((fracD b : Int) != 0) = false := by rw [bne_eq_false_iff_eq]; omega
      rw [if_neg (by omega), if_pos h1] at hce
      subst hce
      clear h1 h2
      go_enter Tryz.func147, Tryz.ntmps147
      go_wp2_with fail
      refine (split_D b hb _).mono ?_; rintro e w1 ⟨rfl, hb1⟩
      have hc1 := hb1.cells; have hz1 : w.heap.size < w1.heap.size := by have := hb1.sizes; simp at this; omega
      go_wp2
      go_ret
      exact ⟨rfl, (by repeat (first | exact Within.refl _ | assumption | refine Within.alloc ?_ _ | refine Within.drew ?_ | refine Within.trans ?_ (by assumption)))⟩
    · have f2 : ((fracD b : Int) != 0) = true := by rw [bne_iff_ne]; omega
      rw [if_pos ⟨h1, h2⟩] at hce
      subst hce
      clear h1 h2
      go_enter Tryz.func147, Tryz.ntmps147
      go_wp2_with fail
      refine (split_D b hb _).mono ?_; rintro e w1 ⟨rfl, hb1⟩
      have hc1 := hb1.cells; have hz1 : w.heap.size < w1.heap.size := by have := hb1.sizes; simp at this; omega
      go_wp2
      go_ret
      exact ⟨rfl, (by repeat (first | exact Within.refl _ | assumption | refine Within.alloc ?_ _ | refine Within.drew ?_ | refine Within.trans ?_ (by assumption)))⟩
  · have f1 : ((expD b : Int) == 2047) = false := beq_eq_false_iff_ne.2 (by omega)
    by_cases h3 : expD b = 0
    · have f3 : ((expD b : Int) == 0) = true := beq_iff_eq.2 (by omega)
      by_cases h2 : fracD b = 0
      · have f2 : ((fracD b : Int) == 0) = true := beq_iff_eq.2 (by omega)
        rw [if_neg (by omega), if_neg h1, if_pos ⟨h3, h2⟩] at hce
        subst hce
        clear h1 h2 h3
        go_enter Tryz.func147, Tryz.ntmps147
        go_wp2_with fail
        refine (split_D b hb _).mono ?_; rintro e w1 ⟨rfl, hb1⟩
        have hc1 := hb1.cells; have hz1 : w.heap.size < w1.heap.size := by have := hb1.sizes; simp at this; omega
        go_wp2
        go_ret
        exact ⟨rfl, (by repeat (first | exact Within.refl _ | assumption | refine Within.alloc ?_ _ | refine Within.drew ?_ | refine Within.trans ?_ (by assumption)))⟩
      · have f2 : ((fracD b : Int) == 0) = false := beq_eq_false_iff_ne.2 (by omega)
        rw [if_neg (by omega), if_neg h1, if_neg (by omega), if_pos h3] at hce
        subst hce
        clear h1 h2 h3
        go_enter Tryz.func147, Tryz.ntmps147
        go_wp2_with fail
        refine (split_D b hb _).mono ?_; rintro e w1 ⟨rfl, hb1⟩
        have hc1 := hb1.cells; have hz1 : w.heap.size < w1.heap.size := by have := hb1.sizes; simp at this; omega
        go_wp2
        go_ret
        exact ⟨rfl, (by repeat (first | exact Within.refl _ | assumption | refine Within.alloc ?_ _ | refine Within.drew ?_ | refine Within.trans ?_ (by assumption)))⟩
    · have f3 : ((expD b : Int) == 0) = false := beq_eq_false_iff_ne.2 (by omega)
      rw [if_neg (by omega), if_neg h1, if_neg (by omega), if_neg h3] at hce
      subst hce
      clear h1 h3
      go_enter Tryz.func147, Tryz.ntmps147
      go_wp2_with fail
      refine (split_D b hb _).mono ?_; rintro e w1 ⟨rfl, hb1⟩
      have hc1 := hb1.cells; have hz1 : w.heap.size < w1.heap.size := by have := hb1.sizes; simp at this; omega
      go_wp2
      go_ret
      exact ⟨rfl, (by repeat (first | exact Within.refl _ | assumption | refine Within.alloc ?_ _ | refine Within.drew ?_ | refine Within.trans ?_ (by assumption)))⟩
def bitsOfD (neg : Bool) (e fr : Nat) : Nat := e * 4503599627370496 + fr + (if neg then 9223372036854775808 else 0)
def joinD (neg : Bool) (e : Int) (fr : Nat) : Nat := if e < 0 ∨ 2047 < e ∨ 4503599627370496 ≤ fr then 0 else canonD (bitsOfD neg e.toNat fr)
def joinED (e : Int) (fr : Nat) : Int := if e < 0 ∨ 2047 < e ∨ 4503599627370496 ≤ fr then 1 else 0
theorem bitsOfD_lt (neg : Bool) {e fr : Nat} (h1 : e ≤ 2047) (h2 : fr < 4503599627370496) : bitsOfD neg e fr < 18446744073709551616 := by unfold bitsOfD; cases neg <;> simp <;> omega
set_option maxHeartbeats 400000 in
theorem join_D (neg : Bool) (e : Int) (fr : Nat) (hlo : -9223372036854775808 ≤ e) (hhi : e ≤ 9223372036854775807) (hb : fr < 18446744073709551616) (w : World) : Calls Tryz.prog 169 #[.bool neg, .int .i64 e, .int .u64 fr, dbl] w fun e' w' => e' = .returned (.tuple #[.int .u64 (joinD neg e fr), .int .i64 (joinED e fr)]) ∧ Within w w' := by
  by_cases c1 : e < 0
  · have hv : (joinD neg e fr : Int) = 0 ∧ joinED e fr = 1 := by unfold joinD joinED; rw [if_pos (by omega), if_pos (by omega)]; exact ⟨rfl, rfl⟩
    rw [hv.1, hv.2]; clear hv hb
    go_enter Tryz.func169, Tryz.ntmps169
    go_wp2
    go_ret2
    exact ⟨rfl, (by repeat (first | exact Within.refl _ | assumption | refine Within.alloc ?_ _ | refine Within.drew ?_ | refine Within.trans ?_ (by assumption)))⟩
  by_cases c2 : 2047 < e
  · have hv : (joinD neg e fr : Int) = 0 ∧ joinED e fr = 1 := by unfold joinD joinED; rw [if_pos (by omega), if_pos (by omega)]; exact ⟨rfl, rfl⟩
    rw [hv.1, hv.2]; clear hv hb
    go_enter Tryz.func169, Tryz.ntmps169
    go_wp2
    go_ret2
    exact ⟨rfl, (by repeat (first | exact Within.refl _ | assumption | refine Within.alloc ?_ _ | refine Within.drew ?_ | refine Within.trans ?_ (by assumption)))⟩
  obtain ⟨k, rfl⟩ := Int.eq_ofNat_of_zero_le (show 0 ≤ e by omega)
  have c3 : (k : Int) ≤ 2047 := by omega
  by_cases c4 : 4503599627370496 ≤ fr
  · have c5 : decide ((4503599627370496 : Int) ≤ fr) = true := decide_eq_true (by omega)
    have d1 : decide ((k : Int) < 0) = false := decide_eq_false (by omega)
    have d2 : decide ((2047 : Int) < k) = false := decide_eq_false (by omega)
    have ew3 : IntKind.u64.wrap (fr : Int) = fr := by rw [IntKind.wrap_u64]; omega
    have hv : (joinD neg k fr : Int) = 0 ∧ joinED k fr = 1 := by unfold joinD joinED; rw [if_pos (by omega), if_pos (by omega)]; exact ⟨rfl, rfl⟩
    rw [hv.1, hv.2]; clear hv hlo hhi hb c4 c1 c2 c3
    go_enter Tryz.func169, Tryz.ntmps169
    go_wp2_with fail
    refine (hidden_D _).mono ?_; rintro e1 w1 ⟨rfl, hb1⟩
    have hc1 := hb1.cells; have hz1 : w.heap.size < w1.heap.size := by have := hb1.sizes; simp at this; omega
    go_wp2
    go_ret2
    exact ⟨rfl, (by repeat (first | exact Within.refl _ | assumption | refine Within.alloc ?_ _ | refine Within.drew ?_ | refine Within.trans ?_ (by assumption)))⟩
  · have c5 : decide ((4503599627370496 : Int) ≤ fr) = false := decide_eq_false (by omega)
    have d1 : decide ((k : Int) < 0) = false := decide_eq_false (by omega)
    have d2 : decide ((2047 : Int) < k) = false := decide_eq_false (by omega)
    have hv : (joinD neg k fr : Int) = canonD (bitsOfD neg k fr) ∧ joinED k fr = 0 := by unfold joinD joinED; rw [if_neg (by omega), if_neg (by omega)]; exact ⟨rfl, rfl⟩
    rw [hv.1, hv.2]
    have hlt := Lib.hid (bitsOfD_lt neg (e := k) (fr := fr) (by omega) (by omega))
    have j1 := u64_join 52 (k * 4503599627370496) fr (by omega) (by omega) (by rw [show (2 : Nat) ^ 52 = 4503599627370496 from rfl]; omega) (by rw [show (2 : Nat) ^ 52 = 4503599627370496 from rfl]; omega)
    have j2 := u64_join 63 9223372036854775808 (k * 4503599627370496 + fr) (by omega) (by omega) (by decide) (by rw [show (2 : Nat) ^ 63 = 9223372036854775808 from rfl]; omega)
    have j2' : bits .or .u64 ((k : Int) * 4503599627370496 + fr) 9223372036854775808 = (k : Int) * 4503599627370496 + fr + 9223372036854775808 := by
      rw [show (k : Int) * 4503599627370496 + fr = ((k * 4503599627370496 + fr : Nat) : Int) by omega, show (9223372036854775808 : Int) = ((9223372036854775808 : Nat) : Int) from rfl, u64_or_nat _ _ (by omega) (by omega), Nat.or_comm, ← u64_or_nat _ _ (by omega) (by omega), j2]
      omega
    simp only [Int.natCast_mul, Int.natCast_add, Int.cast_ofNat_Int] at j1
    have ew : IntKind.u64.wrap (k : Int) = k := by rw [IntKind.wrap_u64]; omega
    have ew2 : IntKind.u64.wrap ((k : Int) * 4503599627370496) = k * 4503599627370496 := by rw [IntKind.wrap_u64]; omega
    have ew3 : IntKind.u64.wrap (fr : Int) = fr := by rw [IntKind.wrap_u64]; omega
    have f0 : (0 : Int) ≤ k := by omega
    have f1 : (0 : Int) ≤ fr := by omega
    clear hv hlo hhi c1 c2 c4 hb j2 c3
    cases neg
    · have j3 : (k : Int) * 4503599627370496 + fr = (bitsOfD false k fr : Int) := by
        unfold bitsOfD; simp
      have J3 := Lib.hid j3; clear j3
      go_enter Tryz.func169, Tryz.ntmps169
      go_wp2_with fail
      refine (hidden_D _).mono ?_; rintro e1 w1 ⟨rfl, hb1⟩
      have hc1 := hb1.cells; have hz1 : w.heap.size < w1.heap.size := by have := hb1.sizes; simp at this; omega
      go_wp2_with fail
      rw [J3.out]
      refine (canon_D _ hlt.out _).mono ?_; rintro e2 w2 ⟨rfl, hb2⟩
      go_wp2
      go_ret2
      exact ⟨rfl, (by repeat (first | exact Within.refl _ | assumption | refine Within.alloc ?_ _ | refine Within.drew ?_ | refine Within.trans ?_ (by assumption)))⟩
    · have j3 : (k : Int) * 4503599627370496 + fr + 9223372036854775808 = (bitsOfD true k fr : Int) := by
        unfold bitsOfD; simp
      have J3 := Lib.hid j3; clear j3
      go_enter Tryz.func169, Tryz.ntmps169
      go_wp2_with fail
      refine (hidden_D _).mono ?_; rintro e1 w1 ⟨rfl, hb1⟩
      have hc1 := hb1.cells; have hz1 : w.heap.size < w1.heap.size := by have := hb1.sizes; simp at this; omega
      go_wp2_with fail
      refine (sign_D _).mono ?_; rintro e2 w2 ⟨rfl, hb2⟩
      have hc2 := hb2.cells; have hz2 : w.heap.size < w2.heap.size := by have := hb2.sizes; omega
      go_wp2_with fail
      rw [J3.out]
      refine (canon_D _ hlt.out _).mono ?_; rintro e3 w3 ⟨rfl, hb3⟩
      go_wp2
      go_ret2
      exact ⟨rfl, (by repeat (first | exact Within.refl _ | assumption | refine Within.alloc ?_ _ | refine Within.drew ?_ | refine Within.trans ?_ (by assumption)))⟩
theorem parts_eq {n : Bool} {a b c d z : Int} (h1 : a = b) (h2 : c = d) : Ending.returned (.tuple #[.agg #[.bool n, .int .u64 a, .int .i64 c], .int .i64 z]) = .returned (.tuple #[.agg #[.bool n, .int .u64 b, .int .i64 d], .int .i64 z]) := by rw [h1, h2]
def mantD (b : Nat) : Nat := if expD b = 0 then fracD b else fracD b + 4503599627370496
def lowD (b : Nat) : Int := ((if expD b = 0 then 1 else expD b : Nat) : Int) - 1075
theorem expD_lt (b : Nat) : expD b < 2048 := by unfold expD; omega
theorem fracD_lt (b : Nat) : fracD b < 4503599627370496 := by unfold fracD; omega
theorem mantD_lt (b : Nat) : mantD b < 2 * 4503599627370496 := by have := fracD_lt b; unfold mantD; split <;> omega
def pMantD (b : Nat) : Nat := if expD b = 2047 then 0 else mantD b / 2 ^ Lib.ctz 64 (mantD b)
def pExpD (b : Nat) : Int := if expD b = 2047 ∨ mantD b = 0 then 0 else lowD b + Lib.ctz 64 (mantD b)
def pNegD (b : Nat) : Bool := if expD b = 2047 then false else negD b
def pErrD (b : Nat) : Int := if expD b = 2047 then 4 else 0
theorem classD_nan {b : Nat} (h : expD b = 2047) : classD b = 1 ∨ classD b = 2 := by
  unfold classD classOf; by_cases h2 : fracD b = 0
  · right; rw [if_neg (by omega), if_pos h]
  · left; rw [if_pos ⟨h, h2⟩]
theorem classD_zero {b : Nat} (h : expD b = 0) (h2 : fracD b = 0) : classD b = 3 := by
  unfold classD classOf; rw [if_neg (by omega), if_neg (by omega), if_pos ⟨h, h2⟩]
theorem classD_sub {b : Nat} (h : expD b = 0) (h2 : fracD b ≠ 0) : classD b = 4 := by
  unfold classD classOf; rw [if_neg (by omega), if_neg (by omega), if_neg (by omega), if_pos h]
theorem classD_normal {b : Nat} (h : expD b ≠ 0) (h2 : expD b ≠ 2047) : classD b = 5 := by
  unfold classD classOf; rw [if_neg (by omega), if_neg (by omega), if_neg (by omega), if_neg (by omega)]
set_option maxRecDepth 100000 in
set_option maxHeartbeats 600000 in
theorem partsNan_D (b : Nat) (hb : b < 18446744073709551616) (cl : classD b = 1 ∨ classD b = 2) (w : World) (_ : Tab w) : Calls Tryz.prog 148 #[.int .u64 b, dbl] w fun e w' => e = .returned (.tuple #[.agg #[.bool (false), .int .u64 (0), .int .i64 (0)], .int .i64 (4)]) ∧ Within w w' := by
  have H0 := Lib.hid hb
  have HE := expD_lt b
  have HF := Lib.hid (fracD_lt b)
  have he : (expD b : Int) < 2048 := by omega
  have ewf : IntKind.u64.wrap (fracD b : Int) = fracD b := by have := HF.out; rw [IntKind.wrap_u64]; omega
  rcases cl with hcl | hcl
  all_goals
    have CL := Lib.hid (class_D b H0.out)
    rw [hcl] at CL; clear hcl hb HE
    go_enter Tryz.func148, Tryz.ntmps148
    go_wp2_with fail
    refine (split_D b H0.out _).mono ?_; rintro e1 w1 ⟨rfl, hb1⟩
    have hc1 := hb1.cells; have hf1 := hb1.frozens; have hz1 : w.heap.size + 1 < w1.heap.size := (by have := hb1.sizes; simp at this; omega); have hy1 : w.heap.size < w1.heap.size := by omega
    have s0 : w1.cell? ⟨w.heap.size + 1, 0, none⟩ = some (.bool false) := by have := hc1 (w.heap.size + 1) 0 (by simp); simpa using this
    have s1 : w1.cell? ⟨w.heap.size + 1, 1, none⟩ = some (.int .u64 0) := by have := hc1 (w.heap.size + 1) 1 (by simp); simpa using this
    have s2 : w1.cell? ⟨w.heap.size + 1, 2, none⟩ = some (.int .i64 0) := by have := hc1 (w.heap.size + 1) 2 (by simp); simpa using this
    go_wp2_with fail
    refine (CL.out _).mono ?_; rintro e2 w2 ⟨rfl, hb2⟩
    have hc2 := hb2.cells; have hf2 := hb2.frozens; have hz2 : w1.heap.size < w2.heap.size := (by have := hb2.sizes; simp at this; omega); have hy2 : w.heap.size < w2.heap.size := (by omega); have hx2 : w.heap.size + 1 < w2.heap.size := by omega
    have k0 : w2.cell? ⟨w1.heap.size, 0, none⟩ = some (.bool (negD b)) := by have := hc2 w1.heap.size 0 (by simp); simpa using this
    have k1 : w2.cell? ⟨w1.heap.size, 1, none⟩ = some (.int .u64 (fracD b)) := by have := hc2 w1.heap.size 1 (by simp); simpa using this
    have k2 : w2.cell? ⟨w1.heap.size, 2, none⟩ = some (.int .i64 ((expD b : Int) - 1075)) := by have := hc2 w1.heap.size 2 (by simp); simpa using this
    have r0 : w2.cell? ⟨w.heap.size + 1, 0, none⟩ = some (.bool false) := by rw [hc2 _ _ (by simp; omega), World.cell?_alloc_lt _ _ _ (by simpa using hz1)]; exact s0
    have r1 : w2.cell? ⟨w.heap.size + 1, 1, none⟩ = some (.int .u64 0) := by rw [hc2 _ _ (by simp; omega), World.cell?_alloc_lt _ _ _ (by simpa using hz1)]; exact s1
    have r2 : w2.cell? ⟨w.heap.size + 1, 2, none⟩ = some (.int .i64 0) := by rw [hc2 _ _ (by simp; omega), World.cell?_alloc_lt _ _ _ (by simpa using hz1)]; exact s2
    go_wp2
    refine bodyPost_ret (v := .tuple #[.agg #[.bool (false), .int .u64 (0), .int .i64 (0)], .int .i64 (4)]) (by simp [results, Tryz.results148, go_sem, r0, r1, r2]) rfl ⟨rfl, ?_⟩
    exact (by repeat (first | with_reducible exact Within.refl _ | with_reducible assumption | with_reducible refine Within.alloc ?_ _ | with_reducible refine Within.drew ?_ | with_reducible refine Within.setCell ?_ (by first | (simp; done) | (simp; omega)) _ | with_reducible refine Within.trans ?_ (by assumption)))
set_option maxRecDepth 100000 in
set_option maxHeartbeats 600000 in
theorem partsZero_D (b : Nat) (hb : b < 18446744073709551616) (cl : classD b = 3) (w : World) (_ : Tab w) : Calls Tryz.prog 148 #[.int .u64 b, dbl] w fun e w' => e = .returned (.tuple #[.agg #[.bool (negD b), .int .u64 (0), .int .i64 (0)], .int .i64 (0)]) ∧ Within w w' := by
  have H0 := Lib.hid hb
  have HE := expD_lt b
  have HF := Lib.hid (fracD_lt b)
  have he : (expD b : Int) < 2048 := by omega
  have ewf : IntKind.u64.wrap (fracD b : Int) = fracD b := by have := HF.out; rw [IntKind.wrap_u64]; omega
  have CL := Lib.hid (class_D b H0.out)
  rw [cl] at CL
  clear cl hb HE
  go_enter Tryz.func148, Tryz.ntmps148
  go_wp2_with fail
  refine (split_D b H0.out _).mono ?_; rintro e1 w1 ⟨rfl, hb1⟩
  have hc1 := hb1.cells; have hf1 := hb1.frozens; have hz1 : w.heap.size + 1 < w1.heap.size := (by have := hb1.sizes; simp at this; omega); have hy1 : w.heap.size < w1.heap.size := by omega
  have s0 : w1.cell? ⟨w.heap.size + 1, 0, none⟩ = some (.bool false) := by have := hc1 (w.heap.size + 1) 0 (by simp); simpa using this
  have s1 : w1.cell? ⟨w.heap.size + 1, 1, none⟩ = some (.int .u64 0) := by have := hc1 (w.heap.size + 1) 1 (by simp); simpa using this
  have s2 : w1.cell? ⟨w.heap.size + 1, 2, none⟩ = some (.int .i64 0) := by have := hc1 (w.heap.size + 1) 2 (by simp); simpa using this
  go_wp2_with fail
  refine (CL.out _).mono ?_; rintro e2 w2 ⟨rfl, hb2⟩
  have hc2 := hb2.cells; have hf2 := hb2.frozens; have hz2 : w1.heap.size < w2.heap.size := (by have := hb2.sizes; simp at this; omega); have hy2 : w.heap.size < w2.heap.size := (by omega); have hx2 : w.heap.size + 1 < w2.heap.size := by omega
  have k0 : w2.cell? ⟨w1.heap.size, 0, none⟩ = some (.bool (negD b)) := by have := hc2 w1.heap.size 0 (by simp); simpa using this
  have k1 : w2.cell? ⟨w1.heap.size, 1, none⟩ = some (.int .u64 (fracD b)) := by have := hc2 w1.heap.size 1 (by simp); simpa using this
  have k2 : w2.cell? ⟨w1.heap.size, 2, none⟩ = some (.int .i64 ((expD b : Int) - 1075)) := by have := hc2 w1.heap.size 2 (by simp); simpa using this
  have r0 : w2.cell? ⟨w.heap.size + 1, 0, none⟩ = some (.bool false) := by rw [hc2 _ _ (by simp; omega), World.cell?_alloc_lt _ _ _ (by simpa using hz1)]; exact s0
  have r1 : w2.cell? ⟨w.heap.size + 1, 1, none⟩ = some (.int .u64 0) := by rw [hc2 _ _ (by simp; omega), World.cell?_alloc_lt _ _ _ (by simpa using hz1)]; exact s1
  have r2 : w2.cell? ⟨w.heap.size + 1, 2, none⟩ = some (.int .i64 0) := by rw [hc2 _ _ (by simp; omega), World.cell?_alloc_lt _ _ _ (by simpa using hz1)]; exact s2
  go_wp2
  refine bodyPost_ret (v := .tuple #[.agg #[.bool (negD b), .int .u64 (0), .int .i64 (0)], .int .i64 (0)]) (by simp [results, Tryz.results148, go_sem, r0, r1, r2]) rfl ⟨rfl, ?_⟩
  exact (by repeat (first | with_reducible exact Within.refl _ | with_reducible assumption | with_reducible refine Within.alloc ?_ _ | with_reducible refine Within.drew ?_ | with_reducible refine Within.setCell ?_ (by first | (simp; done) | (simp; omega)) _ | with_reducible refine Within.trans ?_ (by assumption)))
set_option maxRecDepth 100000 in
set_option maxHeartbeats 600000 in
theorem partsSub_D (b : Nat) (hb : b < 18446744073709551616) (c2 : mantD b ≠ 0) (cl : classD b = 4) (em : mantD b = fracD b) (el : lowD b = expD b - 1075 + 1) (w : World) (hT : Tab w) : Calls Tryz.prog 148 #[.int .u64 b, dbl] w fun e w' => e = .returned (.tuple #[.agg #[.bool (negD b), .int .u64 ((mantD b / 2 ^ Lib.ctz 64 (mantD b) : Nat)), .int .i64 (lowD b + Lib.ctz 64 (mantD b))], .int .i64 (0)]) ∧ Within w w' := by
  have H0 := Lib.hid hb
  have HE := expD_lt b
  have HF := Lib.hid (fracD_lt b)
  have he : (expD b : Int) < 2048 := by omega
  have ewf : IntKind.u64.wrap (fracD b : Int) = fracD b := by have := HF.out; rw [IntKind.wrap_u64]; omega
  have HM := Lib.hid (mantD_lt b)
  obtain ⟨_, hz, hk⟩ := ctz_split (mantD b) c2 (by have := HM.out; omega); clear hz
  have HK := Lib.hid hk
  have hk : (Lib.ctz 64 (mantD b) : Int) < 64 := by omega
  have TZ := Lib.hid (fun w => bits_tz64 (mantD b) (by have := HM.out; omega) w)
  generalize Lib.ctz 64 (mantD b) = k at *
  have CL := Lib.hid (class_D b H0.out)
  rw [cl] at CL
  have EM := Lib.hid em
  have EL := Lib.hid el
  clear cl hb HE c2 em el
  go_enter Tryz.func148, Tryz.ntmps148
  go_wp2_with fail
  refine (split_D b H0.out _).mono ?_; rintro e1 w1 ⟨rfl, hb1⟩
  have hc1 := hb1.cells; have hf1 := hb1.frozens; have hz1 : w.heap.size + 1 < w1.heap.size := (by have := hb1.sizes; simp at this; omega); have hy1 : w.heap.size < w1.heap.size := by omega
  have s0 : w1.cell? ⟨w.heap.size + 1, 0, none⟩ = some (.bool false) := by have := hc1 (w.heap.size + 1) 0 (by simp); simpa using this
  have s1 : w1.cell? ⟨w.heap.size + 1, 1, none⟩ = some (.int .u64 0) := by have := hc1 (w.heap.size + 1) 1 (by simp); simpa using this
  have s2 : w1.cell? ⟨w.heap.size + 1, 2, none⟩ = some (.int .i64 0) := by have := hc1 (w.heap.size + 1) 2 (by simp); simpa using this
  go_wp2_with fail
  refine (CL.out _).mono ?_; rintro e2 w2 ⟨rfl, hb2⟩
  have hc2 := hb2.cells; have hf2 := hb2.frozens; have hz2 : w1.heap.size < w2.heap.size := (by have := hb2.sizes; simp at this; omega); have hy2 : w.heap.size < w2.heap.size := (by omega); have hx2 : w.heap.size + 1 < w2.heap.size := by omega
  have k0 : w2.cell? ⟨w1.heap.size, 0, none⟩ = some (.bool (negD b)) := by have := hc2 w1.heap.size 0 (by simp); simpa using this
  have k1 : w2.cell? ⟨w1.heap.size, 1, none⟩ = some (.int .u64 (fracD b)) := by have := hc2 w1.heap.size 1 (by simp); simpa using this
  have k2 : w2.cell? ⟨w1.heap.size, 2, none⟩ = some (.int .i64 ((expD b : Int) - 1075)) := by have := hc2 w1.heap.size 2 (by simp); simpa using this
  have r0 : w2.cell? ⟨w.heap.size + 1, 0, none⟩ = some (.bool false) := by rw [hc2 _ _ (by simp; omega), World.cell?_alloc_lt _ _ _ (by simpa using hz1)]; exact s0
  have r1 : w2.cell? ⟨w.heap.size + 1, 1, none⟩ = some (.int .u64 0) := by rw [hc2 _ _ (by simp; omega), World.cell?_alloc_lt _ _ _ (by simpa using hz1)]; exact s1
  have r2 : w2.cell? ⟨w.heap.size + 1, 2, none⟩ = some (.int .i64 0) := by rw [hc2 _ _ (by simp; omega), World.cell?_alloc_lt _ _ _ (by simpa using hz1)]; exact s2
  go_wp2_with fail
  rw [← EM.out]
  refine (TZ.out _ (hT.of (by repeat (first | with_reducible exact Within.refl _ | with_reducible assumption | with_reducible refine Within.alloc ?_ _ | with_reducible refine Within.drew ?_ | with_reducible refine Within.setCell ?_ (by first | (simp; done) | (simp; omega)) _ | with_reducible refine Within.trans ?_ (by assumption))))).mono ?_; rintro e3 w3 ⟨rfl, rfl⟩
  go_wp2
  obtain ⟨m, hm⟩ : ∃ m : Int, m = (fracD b : Int) / 2 ^ k := ⟨_, rfl⟩
  rw [← hm]
  have HM2 := Lib.hid hm; clear hm
  refine bodyPost_ret (v := .tuple #[.agg #[.bool (negD b), .int .u64 m, .int .i64 ((expD b : Int) - 1075 + 1 + k)], .int .i64 0]) ?_ ?_ ?_
  · simp [results, Tryz.results148, go_sem, r0, r1, r2]
  · rfl
  refine ⟨parts_eq ?_ ?_, ?_⟩
  · rw [HM2.out, EM.out]; simp
  · rw [EL.out]
  · exact (by repeat (first | with_reducible exact Within.refl _ | with_reducible assumption | with_reducible refine Within.alloc ?_ _ | with_reducible refine Within.drew ?_ | with_reducible refine Within.setCell ?_ (by first | (simp; done) | (simp; omega)) _ | with_reducible refine Within.trans ?_ (by assumption)))
set_option maxRecDepth 100000 in
set_option maxHeartbeats 600000 in
theorem partsNorm_D (b : Nat) (hb : b < 18446744073709551616) (c2 : mantD b ≠ 0) (cl : classD b = 5) (em : mantD b = fracD b + 4503599627370496) (el : lowD b = expD b - 1075) (w : World) (hT : Tab w) : Calls Tryz.prog 148 #[.int .u64 b, dbl] w fun e w' => e = .returned (.tuple #[.agg #[.bool (negD b), .int .u64 ((mantD b / 2 ^ Lib.ctz 64 (mantD b) : Nat)), .int .i64 (lowD b + Lib.ctz 64 (mantD b))], .int .i64 (0)]) ∧ Within w w' := by
  have H0 := Lib.hid hb
  have HE := expD_lt b
  have HF := Lib.hid (fracD_lt b)
  have he : (expD b : Int) < 2048 := by omega
  have ewf : IntKind.u64.wrap (fracD b : Int) = fracD b := by have := HF.out; rw [IntKind.wrap_u64]; omega
  have HM := Lib.hid (mantD_lt b)
  obtain ⟨_, hz, hk⟩ := ctz_split (mantD b) c2 (by have := HM.out; omega); clear hz
  have HK := Lib.hid hk
  have hk : (Lib.ctz 64 (mantD b) : Int) < 64 := by omega
  have TZ := Lib.hid (fun w => bits_tz64 (mantD b) (by have := HM.out; omega) w)
  generalize Lib.ctz 64 (mantD b) = k at *
  have CL := Lib.hid (class_D b H0.out)
  rw [cl] at CL
  have EM := Lib.hid em
  have EL := Lib.hid el
  have j1 := u64_join 52 4503599627370496 (fracD b) (by decide) (by have := HF.out; omega) (by decide) (by rw [show (2 : Nat) ^ 52 = 4503599627370496 from rfl]; exact HF.out)
  have e1 : bits .or .u64 (fracD b : Int) 4503599627370496 = (mantD b : Int) := by
    rw [show (4503599627370496 : Int) = ((4503599627370496 : Nat) : Int) from rfl, u64_or_nat _ _ (by have := HF.out; omega) (by decide), Nat.or_comm, ← u64_or_nat _ _ (by decide) (by have := HF.out; omega), j1, EM.out]; omega
  clear cl hb HE c2 em el j1
  go_enter Tryz.func148, Tryz.ntmps148
  go_wp2_with fail
  refine (split_D b H0.out _).mono ?_; rintro e1 w1 ⟨rfl, hb1⟩
  have hc1 := hb1.cells; have hf1 := hb1.frozens; have hz1 : w.heap.size + 1 < w1.heap.size := (by have := hb1.sizes; simp at this; omega); have hy1 : w.heap.size < w1.heap.size := by omega
  have s0 : w1.cell? ⟨w.heap.size + 1, 0, none⟩ = some (.bool false) := by have := hc1 (w.heap.size + 1) 0 (by simp); simpa using this
  have s1 : w1.cell? ⟨w.heap.size + 1, 1, none⟩ = some (.int .u64 0) := by have := hc1 (w.heap.size + 1) 1 (by simp); simpa using this
  have s2 : w1.cell? ⟨w.heap.size + 1, 2, none⟩ = some (.int .i64 0) := by have := hc1 (w.heap.size + 1) 2 (by simp); simpa using this
  go_wp2_with fail
  refine (CL.out _).mono ?_; rintro e2 w2 ⟨rfl, hb2⟩
  have hc2 := hb2.cells; have hf2 := hb2.frozens; have hz2 : w1.heap.size < w2.heap.size := (by have := hb2.sizes; simp at this; omega); have hy2 : w.heap.size < w2.heap.size := (by omega); have hx2 : w.heap.size + 1 < w2.heap.size := by omega
  have k0 : w2.cell? ⟨w1.heap.size, 0, none⟩ = some (.bool (negD b)) := by have := hc2 w1.heap.size 0 (by simp); simpa using this
  have k1 : w2.cell? ⟨w1.heap.size, 1, none⟩ = some (.int .u64 (fracD b)) := by have := hc2 w1.heap.size 1 (by simp); simpa using this
  have k2 : w2.cell? ⟨w1.heap.size, 2, none⟩ = some (.int .i64 ((expD b : Int) - 1075)) := by have := hc2 w1.heap.size 2 (by simp); simpa using this
  have r0 : w2.cell? ⟨w.heap.size + 1, 0, none⟩ = some (.bool false) := by rw [hc2 _ _ (by simp; omega), World.cell?_alloc_lt _ _ _ (by simpa using hz1)]; exact s0
  have r1 : w2.cell? ⟨w.heap.size + 1, 1, none⟩ = some (.int .u64 0) := by rw [hc2 _ _ (by simp; omega), World.cell?_alloc_lt _ _ _ (by simpa using hz1)]; exact s1
  have r2 : w2.cell? ⟨w.heap.size + 1, 2, none⟩ = some (.int .i64 0) := by rw [hc2 _ _ (by simp; omega), World.cell?_alloc_lt _ _ _ (by simpa using hz1)]; exact s2
  go_wp2_with fail
  have g0 : w1.cell? ⟨w.heap.size, 0, none⟩ = some (.int .u64 52) := by have := hc1 w.heap.size 0 (by simp; omega); simpa using this
  have f0 : w2.cell? ⟨w.heap.size, 0, none⟩ = some (.int .u64 52) := by rw [hc2 _ _ (by simp; omega), World.cell?_alloc_lt _ _ _ (by simpa using hy1)]; exact g0
  have g1 : w1.cell? ⟨w.heap.size, 1, none⟩ = some (.int .i64 2047) := by have := hc1 w.heap.size 1 (by simp; omega); simpa using this
  have f1 : w2.cell? ⟨w.heap.size, 1, none⟩ = some (.int .i64 2047) := by rw [hc2 _ _ (by simp; omega), World.cell?_alloc_lt _ _ _ (by simpa using hy1)]; exact g1
  have g2 : w1.cell? ⟨w.heap.size, 2, none⟩ = some (.int .i64 1075) := by have := hc1 w.heap.size 2 (by simp; omega); simpa using this
  have f2 : w2.cell? ⟨w.heap.size, 2, none⟩ = some (.int .i64 1075) := by rw [hc2 _ _ (by simp; omega), World.cell?_alloc_lt _ _ _ (by simpa using hy1)]; exact g2
  have z1 : ∀ o, w2.frozen? ⟨w1.heap.size, o, none⟩ = false := fun o => by have := hf2 w1.heap.size o (by simp); simpa using this
  have y0 : ∀ o, w1.frozen? ⟨w.heap.size + 1, o, none⟩ = false := fun o => by have := hf1 (w.heap.size + 1) o (by simp); simpa using this
  have y1 : ∀ o, w2.frozen? ⟨w.heap.size + 1, o, none⟩ = false := fun o => by have := hf2 (w.heap.size + 1) o (by simp; omega); rw [World.frozen?_alloc_old _ _ _ (by simp; omega)] at this; rw [this]; exact y0 o
  go_region_with (first | (go_at_call 167; refine (hidden_D _).mono ?_; rintro e3 w3 ⟨rfl, hb3⟩; have hq3 := (Within.refl w2).drew.trans hb3; have hc3 := hq3.cells; have kk0 := (hc3 _ _ hz2).trans k0; have kk1 := (hc3 _ _ hz2).trans k1; have kk2 := (hc3 _ _ hz2).trans k2; have hz3 := Nat.lt_of_lt_of_le hz2 hq3.sizes; have hy3 := Nat.lt_of_lt_of_le hy2 hq3.sizes; have z3 := fun o => (hq3.frozens _ o hz2).trans (z1 o); have y3 := fun o => (hq3.frozens _ o hx2).trans (y1 o); have rr0 := (hc3 _ _ hx2).trans r0; have rr1 := (hc3 _ _ hx2).trans r1; have rr2 := (hc3 _ _ hx2).trans r2))
  all_goals
    go_wp2_with fail
    refine (TZ.out _ (hT.of (by repeat (first | with_reducible exact Within.refl _ | with_reducible assumption | with_reducible refine Within.alloc ?_ _ | with_reducible refine Within.drew ?_ | with_reducible refine Within.setCell ?_ (by first | (simp; done) | (simp; omega)) _ | with_reducible refine Within.trans ?_ (by assumption))))).mono ?_; rintro e4 w4 ⟨rfl, rfl⟩
    go_wp2
    obtain ⟨m, hm⟩ : ∃ m : Int, m = (mantD b : Int) / 2 ^ k := ⟨_, rfl⟩
    rw [← hm]
    have HM2 := Lib.hid hm; clear hm
    refine bodyPost_ret (v := .tuple #[.agg #[.bool (negD b), .int .u64 m, .int .i64 ((expD b : Int) - 1075 + k)], .int .i64 0]) ?_ ?_ ?_
    · simp [results, Tryz.results148, go_sem, rr0, rr1, rr2]
    · rfl
    refine ⟨parts_eq ?_ ?_, ?_⟩
    · rw [HM2.out]; simp
    · rw [EL.out]
    · exact (by repeat (first | with_reducible exact Within.refl _ | with_reducible assumption | with_reducible refine Within.alloc ?_ _ | with_reducible refine Within.drew ?_ | with_reducible refine Within.setCell ?_ (by first | (simp; done) | (simp; omega)) _ | with_reducible refine Within.trans ?_ (by assumption)))
set_option maxRecDepth 100000 in
set_option maxHeartbeats 600000 in
theorem parts_D (b : Nat) (hb : b < 18446744073709551616)  (w : World) (hT : Tab w) : Calls Tryz.prog 148 #[.int .u64 b, dbl] w fun e w' => e = .returned (.tuple #[.agg #[.bool (pNegD b), .int .u64 (pMantD b), .int .i64 (pExpD b)], .int .i64 (pErrD b)]) ∧ Within w w' := by
  by_cases c1 : expD b = 2047
  · have hv : pNegD b = false ∧ (pMantD b : Int) = 0 ∧ pExpD b = 0 ∧ pErrD b = 4 := by
      unfold pNegD pMantD pExpD pErrD; rw [if_pos c1, if_pos c1, if_pos (.inl c1), if_pos c1]; exact ⟨rfl, rfl, rfl, rfl⟩
    rw [hv.1, hv.2.1, hv.2.2.1, hv.2.2.2]
    exact partsNan_D b hb (classD_nan c1) w hT
  by_cases c2 : mantD b = 0
  · have c3 : expD b = 0 := by unfold mantD at c2; split at c2 <;> omega
    have c4 : fracD b = 0 := by unfold mantD at c2; rw [if_pos c3] at c2; exact c2
    have hv : pNegD b = negD b ∧ (pMantD b : Int) = 0 ∧ pExpD b = 0 ∧ pErrD b = 0 := by
      unfold pNegD pMantD pExpD pErrD; rw [if_neg c1, if_neg c1, if_pos (.inr c2), if_neg c1, c2]; simp
    rw [hv.1, hv.2.1, hv.2.2.1, hv.2.2.2]
    exact partsZero_D b hb (classD_zero c3 c4) w hT
  have hv : pNegD b = negD b ∧ (pMantD b : Int) = (mantD b / 2 ^ Lib.ctz 64 (mantD b) : Nat) ∧ pExpD b = lowD b + Lib.ctz 64 (mantD b) ∧ pErrD b = 0 := by
    unfold pNegD pMantD pExpD pErrD; rw [if_neg c1, if_neg c1, if_neg (by omega), if_neg c1]; exact ⟨rfl, rfl, rfl, rfl⟩
  rw [hv.1, hv.2.1, hv.2.2.1, hv.2.2.2]
  by_cases c3 : expD b = 0
  · have em : mantD b = fracD b := by unfold mantD; rw [if_pos c3]
    have el : lowD b = expD b - 1075 + 1 := by unfold lowD; rw [if_pos c3, c3]; rfl
    exact partsSub_D b hb c2 (classD_sub c3 (by omega)) em el w hT
  · have em : mantD b = fracD b + 4503599627370496 := by unfold mantD; rw [if_neg c3]
    have el : lowD b = expD b - 1075 := by unfold lowD; rw [if_neg c3]
    exact partsNorm_D b hb c2 (classD_normal c3 c1) em el w hT
def oddM (mant : Nat) : Nat := mant / 2 ^ Lib.ctz 64 mant
def oddE (mant : Nat) (e : Int) : Int := e + Lib.ctz 64 mant
def badD (mant : Nat) (e : Int) : Bool := decide (2150 < e) || decide (e < -2150) || decide (53 < Lib.bitLen (oddM mant)) || decide (oddE mant e < -1074)
def downD (mant : Nat) (e : Int) : Nat := min (53 - Lib.bitLen (oddM mant)) (oddE mant e - -1074).toNat
def topD (mant : Nat) (e : Int) : Nat := oddM mant * 2 ^ downD mant e
def fieldD (mant : Nat) (e : Int) : Int := if topD mant e < 4503599627370496 then 0 else oddE mant e - downD mant e + 1075
def madeD (neg : Bool) (mant : Nat) (e : Int) : Nat := if mant = 0 then joinD neg 0 0 else if badD mant e then 0 else if 2047 ≤ fieldD mant e then 0 else joinD neg (fieldD mant e) (topD mant e % 4503599627370496)
def madeED (mant : Nat) (e : Int) : Int := if mant = 0 then joinED 0 0 else if badD mant e then 10 else if 2047 ≤ fieldD mant e then 10 else joinED (fieldD mant e) (topD mant e % 4503599627370496)
set_option maxRecDepth 100000 in
set_option maxHeartbeats 600000 in
theorem madeZero_D (neg : Bool) (e : Int) (w : World) : Calls Tryz.prog 150 #[.agg #[.bool neg, .int .u64 0, .int .i64 e], dbl] w fun e' w' => e' = .returned (.tuple #[.int .u64 (joinD neg 0 0), .int .i64 (joinED 0 0)]) ∧ Within w w' := by
  go_enter Tryz.func150, Tryz.ntmps150
  go_wp2_with fail
  refine (join_D neg 0 0 (by decide) (by decide) (by decide) _).mono ?_; rintro e1 w1 ⟨rfl, hb1⟩
  go_wp2
  go_ret2
  exact ⟨rfl, (by repeat (first | with_reducible exact Within.refl _ | with_reducible assumption | with_reducible refine Within.alloc ?_ _ | with_reducible refine Within.drew ?_ | with_reducible refine Within.setCell ?_ (by first | (simp; done) | (simp; omega)) _ | with_reducible refine Within.trans ?_ (by assumption)))⟩
set_option maxRecDepth 100000 in
set_option maxHeartbeats 600000 in
theorem madeFar_D (neg : Bool) (mant : Nat) (e : Int) (t1 : ((mant : Int) == 0) = false) (h : 2150 < e ∨ e < -2150) (w : World) : Calls Tryz.prog 150 #[.agg #[.bool neg, .int .u64 mant, .int .i64 e], dbl] w fun e' w' => e' = .returned (.tuple #[.int .u64 (0), .int .i64 (10)]) ∧ Within w w' := by
  rcases h with h | h
  all_goals
    go_enter Tryz.func150, Tryz.ntmps150
    go_wp2
    go_ret2
    exact ⟨rfl, (by repeat (first | with_reducible exact Within.refl _ | with_reducible assumption | with_reducible refine Within.alloc ?_ _ | with_reducible refine Within.drew ?_ | with_reducible refine Within.setCell ?_ (by first | (simp; done) | (simp; omega)) _ | with_reducible refine Within.trans ?_ (by assumption)))⟩
set_option maxRecDepth 100000 in
set_option maxHeartbeats 600000 in
theorem madeBad_D (neg : Bool) (mant k q : Nat) (e : Int) (hb : mant < 18446744073709551616) (t1 : ((mant : Int) == 0) = false) (h1 : e ≤ 2150) (h2 : -2150 ≤ e) (K : Hid (k < 64)) (KE : Hid (Lib.ctz 64 mant = k)) (Q : Hid (q = mant / 2 ^ k)) (HQ : Hid (q < 18446744073709551616)) (h3 : 53 < Lib.bitLen q ∨ e + k < -1074) (w : World) (hT : Tab w) : Calls Tryz.prog 150 #[.agg #[.bool neg, .int .u64 mant, .int .i64 e], dbl] w fun e' w' => e' = .returned (.tuple #[.int .u64 (0), .int .i64 (10)]) ∧ Within w w' := by
  have HB := Lib.hid hb; clear hb
  have TZ := Lib.hid (fun w => bits_tz64 mant HB.out w)
  have hq : (mant : Int) / 2 ^ k = (q : Int) := by rw [Q.out]; simp
  have hsh := shr_u64 mant k K.out
  rw [← Q.out] at hsh
  have hk : (k : Int) < 64 := by have := K.out; omega
  have ew : IntKind.i64.wrap (e + k) = e + k := by rw [IntKind.wrap_i64]; omega
  have LN := Lib.hid (fun w => bits_len64 q HQ.out w)
  generalize hL : Lib.bitLen q = L at *
  rw [KE.out] at TZ
  go_enter Tryz.func150, Tryz.ntmps150
  go_wp2_with fail
  refine (TZ.out _ (hT.of (by repeat (first | with_reducible exact Within.refl _ | with_reducible assumption | with_reducible refine Within.alloc ?_ _ | with_reducible refine Within.drew ?_ | with_reducible refine Within.setCell ?_ (by first | (simp; done) | (simp; omega)) _ | with_reducible refine Within.trans ?_ (by assumption))))).mono ?_; rintro e1 w1 ⟨rfl, rfl⟩
  go_wp2_with fail
  refine wp_region_within (by kernel_rfl) (by kernel_rfl) ?_
  repeat
    apply wpq_step rfl
    · intro wq hCq
      have hcq := hCq.cells
      go_simp
      first | rfl | (trace_state; fail)
    simp only [Act.put, List.setIfInBounds_toArray, List.set_cons_zero, List.set_cons_succ]
  refine wpQuiet_nil ?_
  intro w1 hb1
  have hc1 := hb1.cells; have hz1 : w.heap.size + 1 < w1.heap.size := (by have := hb1.sizes; simp at this; omega); have hy1 : w.heap.size < w1.heap.size := (by omega)
  go_wp2_with fail
  refine (LN.out _).mono ?_; rintro e2 w2 ⟨rfl, rfl⟩
  rcases h3 with h3 | h3
  all_goals
    go_wp2
    all_goals
      go_ret2
      exact ⟨rfl, (by repeat (first | with_reducible exact Within.refl _ | with_reducible assumption | with_reducible refine Within.alloc ?_ _ | with_reducible refine Within.drew ?_ | with_reducible refine Within.setCell ?_ (by first | (simp; done) | (simp; omega)) _ | with_reducible refine Within.trans ?_ (by assumption)))⟩
set_option maxRecDepth 100000 in
set_option maxHeartbeats 600000 in
theorem madeLow_D (neg : Bool) (mant k q D m : Nat) (e : Int) (hb : mant < 18446744073709551616) (t1 : ((mant : Int) == 0) = false) (h1 : e ≤ 2150) (h2 : -2150 ≤ e) (K : Hid (k < 64)) (KE : Hid (Lib.ctz 64 mant = k)) (Q : Hid (q = mant / 2 ^ k)) (HQ : Hid (q < 18446744073709551616)) (hD : min ((53 : Int) - Lib.bitLen q) (e + k + 1074) = D) (hL : (Lib.bitLen q : Int) ≤ 53) (he : -1074 ≤ e + k) (HD : Hid (D < 64)) (MQ : Hid (m = q * 2 ^ D)) (HM : Hid (m < 18446744073709551616)) (hm : (m : Int) < 4503599627370496) (w : World) (hT : Tab w) : Calls Tryz.prog 150 #[.agg #[.bool neg, .int .u64 mant, .int .i64 e], dbl] w fun e' w' => e' = .returned (.tuple #[.int .u64 (joinD neg 0 m), .int .i64 (joinED 0 m)]) ∧ Within w w' := by
  have d6 : True → decide ((m : Int) < 4503599627370496) = true := fun _ => decide_eq_true hm
  have HMM := Lib.hid (show m < 4503599627370496 by omega); clear hm
  have HB := Lib.hid hb; clear hb
  have TZ := Lib.hid (fun w => bits_tz64 mant HB.out w)
  have hq : (mant : Int) / 2 ^ k = (q : Int) := by rw [Q.out]; simp
  have hsh := shr_u64 mant k K.out
  rw [← Q.out] at hsh
  have hk : (k : Int) < 64 := by have := K.out; omega
  have ew : IntKind.i64.wrap (e + k) = e + k := by rw [IntKind.wrap_i64]; omega
  have LN := Lib.hid (fun w => bits_len64 q HQ.out w)
  have hshl := shl_u64 q D HD.out (by rw [← MQ.out]; exact HM.out)
  rw [← MQ.out] at hshl
  have hm2 : IntKind.u64.wrap ((q : Int) * 2 ^ D) = m := by rw [show (q : Int) * 2 ^ D = (m : Int) by rw [MQ.out]; simp, IntKind.wrap_u64]; have := HM.out; omega
  generalize Lib.bitLen q = L at *
  rw [KE.out] at TZ
  go_enter Tryz.func150, Tryz.ntmps150
  go_wp2_with fail
  refine (TZ.out _ (hT.of (by repeat (first | with_reducible exact Within.refl _ | with_reducible assumption | with_reducible refine Within.alloc ?_ _ | with_reducible refine Within.drew ?_ | with_reducible refine Within.setCell ?_ (by first | (simp; done) | (simp; omega)) _ | with_reducible refine Within.trans ?_ (by assumption))))).mono ?_; rintro e1 w1 ⟨rfl, rfl⟩
  go_wp2_with fail
  refine wp_region_within (by kernel_rfl) (by kernel_rfl) ?_
  repeat
    apply wpq_step rfl
    · intro wq hCq
      have hcq := hCq.cells
      go_simp
      first | rfl | (trace_state; fail)
    simp only [Act.put, List.setIfInBounds_toArray, List.set_cons_zero, List.set_cons_succ]
  refine wpQuiet_nil ?_
  intro w1 hb1
  have hc1 := hb1.cells; have hz1 : w.heap.size + 1 < w1.heap.size := (by have := hb1.sizes; simp at this; omega); have hy1 : w.heap.size < w1.heap.size := (by omega)
  go_wp2_with fail
  refine (LN.out _).mono ?_; rintro e2 w2 ⟨rfl, rfl⟩
  go_wp2_with fail
  refine (hidden_D _).mono ?_; rintro e2 w2 ⟨rfl, hb2⟩
  have hc2 := hb2.cells; have hz2 : w.heap.size + 1 < w2.heap.size := (by have := hb2.sizes; omega); have hy2 : w.heap.size < w2.heap.size := (by omega)
  go_wp2_with fail
  refine (join_D neg 0 m (by decide) (by decide) (by have := HMM.out; omega) _).mono ?_; rintro e3 w3 ⟨rfl, hb3⟩
  go_wp2
  go_ret2
  exact ⟨rfl, (by repeat (first | with_reducible exact Within.refl _ | with_reducible assumption | with_reducible refine Within.alloc ?_ _ | with_reducible refine Within.drew ?_ | with_reducible refine Within.setCell ?_ (by first | (simp; done) | (simp; omega)) _ | with_reducible refine Within.trans ?_ (by assumption)))⟩
set_option maxRecDepth 100000 in
set_option maxHeartbeats 600000 in
theorem madeOver_D (neg : Bool) (mant k q D m : Nat) (e : Int) (hb : mant < 18446744073709551616) (t1 : ((mant : Int) == 0) = false) (h1 : e ≤ 2150) (h2 : -2150 ≤ e) (K : Hid (k < 64)) (KE : Hid (Lib.ctz 64 mant = k)) (Q : Hid (q = mant / 2 ^ k)) (HQ : Hid (q < 18446744073709551616)) (hD : min ((53 : Int) - Lib.bitLen q) (e + k + 1074) = D) (hL : (Lib.bitLen q : Int) ≤ 53) (he : -1074 ≤ e + k) (HD : Hid (D < 64)) (MQ : Hid (m = q * 2 ^ D)) (HM : Hid (m < 18446744073709551616)) (hm : (4503599627370496 : Int) ≤ m) (h4 : 2047 ≤ e + k - D + 1075) (w : World) (hT : Tab w) : Calls Tryz.prog 150 #[.agg #[.bool neg, .int .u64 mant, .int .i64 e], dbl] w fun e' w' => e' = .returned (.tuple #[.int .u64 (0), .int .i64 (10)]) ∧ Within w w' := by
  have d6 : True → decide ((m : Int) < 4503599627370496) = false := fun _ => decide_eq_false (by omega)
  have HMM := Lib.hid (show 4503599627370496 ≤ m by omega); clear hm
  have HB := Lib.hid hb; clear hb
  have TZ := Lib.hid (fun w => bits_tz64 mant HB.out w)
  have hq : (mant : Int) / 2 ^ k = (q : Int) := by rw [Q.out]; simp
  have hsh := shr_u64 mant k K.out
  rw [← Q.out] at hsh
  have hk : (k : Int) < 64 := by have := K.out; omega
  have ew : IntKind.i64.wrap (e + k) = e + k := by rw [IntKind.wrap_i64]; omega
  have LN := Lib.hid (fun w => bits_len64 q HQ.out w)
  have hshl := shl_u64 q D HD.out (by rw [← MQ.out]; exact HM.out)
  rw [← MQ.out] at hshl
  have hm2 : IntKind.u64.wrap ((q : Int) * 2 ^ D) = m := by rw [show (q : Int) * 2 ^ D = (m : Int) by rw [MQ.out]; simp, IntKind.wrap_u64]; have := HM.out; omega
  generalize Lib.bitLen q = L at *
  rw [KE.out] at TZ
  go_enter Tryz.func150, Tryz.ntmps150
  go_wp2_with fail
  refine (TZ.out _ (hT.of (by repeat (first | with_reducible exact Within.refl _ | with_reducible assumption | with_reducible refine Within.alloc ?_ _ | with_reducible refine Within.drew ?_ | with_reducible refine Within.setCell ?_ (by first | (simp; done) | (simp; omega)) _ | with_reducible refine Within.trans ?_ (by assumption))))).mono ?_; rintro e1 w1 ⟨rfl, rfl⟩
  go_wp2_with fail
  refine wp_region_within (by kernel_rfl) (by kernel_rfl) ?_
  repeat
    apply wpq_step rfl
    · intro wq hCq
      have hcq := hCq.cells
      go_simp
      first | rfl | (trace_state; fail)
    simp only [Act.put, List.setIfInBounds_toArray, List.set_cons_zero, List.set_cons_succ]
  refine wpQuiet_nil ?_
  intro w1 hb1
  have hc1 := hb1.cells; have hz1 : w.heap.size + 1 < w1.heap.size := (by have := hb1.sizes; simp at this; omega); have hy1 : w.heap.size < w1.heap.size := (by omega)
  go_wp2_with fail
  refine (LN.out _).mono ?_; rintro e2 w2 ⟨rfl, rfl⟩
  go_wp2_with fail
  refine (hidden_D _).mono ?_; rintro e2 w2 ⟨rfl, hb2⟩
  have hc2 := hb2.cells; have hz2 : w.heap.size + 1 < w2.heap.size := (by have := hb2.sizes; omega); have hy2 : w.heap.size < w2.heap.size := (by omega)
  go_wp2
  go_ret2
  exact ⟨rfl, (by repeat (first | with_reducible exact Within.refl _ | with_reducible assumption | with_reducible refine Within.alloc ?_ _ | with_reducible refine Within.drew ?_ | with_reducible refine Within.setCell ?_ (by first | (simp; done) | (simp; omega)) _ | with_reducible refine Within.trans ?_ (by assumption)))⟩
set_option maxRecDepth 100000 in
set_option maxHeartbeats 600000 in
theorem madeNorm_D (neg : Bool) (mant k q D m : Nat) (e : Int) (hb : mant < 18446744073709551616) (t1 : ((mant : Int) == 0) = false) (h1 : e ≤ 2150) (h2 : -2150 ≤ e) (K : Hid (k < 64)) (KE : Hid (Lib.ctz 64 mant = k)) (Q : Hid (q = mant / 2 ^ k)) (HQ : Hid (q < 18446744073709551616)) (hD : min ((53 : Int) - Lib.bitLen q) (e + k + 1074) = D) (hL : (Lib.bitLen q : Int) ≤ 53) (he : -1074 ≤ e + k) (HD : Hid (D < 64)) (MQ : Hid (m = q * 2 ^ D)) (HM : Hid (m < 18446744073709551616)) (hm : (4503599627370496 : Int) ≤ m) (hm2 : m < 2 * 4503599627370496) (h4 : e + k - D + 1075 < 2047) (w : World) (hT : Tab w) : Calls Tryz.prog 150 #[.agg #[.bool neg, .int .u64 mant, .int .i64 e], dbl] w fun e' w' => e' = .returned (.tuple #[.int .u64 (joinD neg (e + k - D + 1075) (m - 4503599627370496)), .int .i64 (joinED (e + k - D + 1075) (m - 4503599627370496))]) ∧ Within w w' := by
  have d6 : True → decide ((m : Int) < 4503599627370496) = false := fun _ => decide_eq_false (by omega)
  have HMM := Lib.hid (show 4503599627370496 ≤ m by omega)
  have HM2 := Lib.hid hm2
  have ewm : IntKind.u64.wrap ((m : Int) - 4503599627370496) = ((m - 4503599627370496 : Nat) : Int) := by rw [IntKind.wrap_u64]; omega
  clear hm hm2
  have HB := Lib.hid hb; clear hb
  have TZ := Lib.hid (fun w => bits_tz64 mant HB.out w)
  have hq : (mant : Int) / 2 ^ k = (q : Int) := by rw [Q.out]; simp
  have hsh := shr_u64 mant k K.out
  rw [← Q.out] at hsh
  have hk : (k : Int) < 64 := by have := K.out; omega
  have ew : IntKind.i64.wrap (e + k) = e + k := by rw [IntKind.wrap_i64]; omega
  have LN := Lib.hid (fun w => bits_len64 q HQ.out w)
  have hshl := shl_u64 q D HD.out (by rw [← MQ.out]; exact HM.out)
  rw [← MQ.out] at hshl
  have hm3 : IntKind.u64.wrap ((q : Int) * 2 ^ D) = m := by rw [show (q : Int) * 2 ^ D = (m : Int) by rw [MQ.out]; simp, IntKind.wrap_u64]; have := HM.out; omega
  generalize Lib.bitLen q = L at *
  rw [KE.out] at TZ
  go_enter Tryz.func150, Tryz.ntmps150
  go_wp2_with fail
  refine (TZ.out _ (hT.of (by repeat (first | with_reducible exact Within.refl _ | with_reducible assumption | with_reducible refine Within.alloc ?_ _ | with_reducible refine Within.drew ?_ | with_reducible refine Within.setCell ?_ (by first | (simp; done) | (simp; omega)) _ | with_reducible refine Within.trans ?_ (by assumption))))).mono ?_; rintro e1 w1 ⟨rfl, rfl⟩
  go_wp2_with fail
  refine wp_region_within (by kernel_rfl) (by kernel_rfl) ?_
  repeat
    apply wpq_step rfl
    · intro wq hCq
      have hcq := hCq.cells
      go_simp
      first | rfl | (trace_state; fail)
    simp only [Act.put, List.setIfInBounds_toArray, List.set_cons_zero, List.set_cons_succ]
  refine wpQuiet_nil ?_
  intro w1 hb1
  have hc1 := hb1.cells; have hz1 : w.heap.size + 1 < w1.heap.size := (by have := hb1.sizes; simp at this; omega); have hy1 : w.heap.size < w1.heap.size := (by omega)
  go_wp2_with fail
  refine (LN.out _).mono ?_; rintro e2 w2 ⟨rfl, rfl⟩
  go_wp2_with fail
  refine (hidden_D _).mono ?_; rintro e2 w2 ⟨rfl, hb2⟩
  have hc2 := hb2.cells; have hz2 : w.heap.size + 1 < w2.heap.size := (by have := hb2.sizes; omega); have hy2 : w.heap.size < w2.heap.size := (by omega)
  go_wp2_with fail
  refine wp_region_within (by kernel_rfl) (by kernel_rfl) ?_
  repeat
    apply wpq_step rfl
    · intro wq hCq
      have hcq := hCq.cells
      go_simp
      first | rfl | exact hCq.call (hidden_D _) | exact hCq.call (join_D neg _ _ (by omega) (by omega) (by have := HM2.out; omega) _) | (trace_state; fail)
    simp only [Act.put, List.setIfInBounds_toArray, List.set_cons_zero, List.set_cons_succ]
  refine wpQuiet_nil ?_
  intro w3 hb3
  go_wp2
  go_ret2
  exact ⟨rfl, (by repeat (first | with_reducible exact Within.refl _ | with_reducible assumption | with_reducible refine Within.alloc ?_ _ | with_reducible refine Within.drew ?_ | with_reducible refine Within.setCell ?_ (by first | (simp; done) | (simp; omega)) _ | with_reducible refine Within.trans ?_ (by assumption)))⟩
theorem lt_bitLen (x : Nat) (hx : x < 18446744073709551616) : x < 2 ^ Lib.bitLen x := by
  by_cases h : x = 0
  · subst h; decide
  · rw [bitLen_log2 x h hx]; exact Nat.lt_log2_self
theorem oddM_lt (x : Nat) (hx : x < 18446744073709551616) : oddM x < 18446744073709551616 := by
  unfold oddM
  exact Nat.lt_of_le_of_lt (Nat.div_le_self _ _) hx
theorem topD_lt (mant : Nat) (e : Int) (hm : mant < 18446744073709551616) (h : badD mant e = false) : topD mant e < 2 * 4503599627370496 := by
  have hb := lt_bitLen (oddM mant) (oddM_lt mant hm)
  have hl : Lib.bitLen (oddM mant) ≤ 53 := by unfold badD at h; simp at h; omega
  have hd : downD mant e ≤ 53 - Lib.bitLen (oddM mant) := by unfold downD; omega
  unfold topD
  have h1 : oddM mant * 2 ^ downD mant e ≤ oddM mant * 2 ^ (53 - Lib.bitLen (oddM mant)) := Nat.mul_le_mul_left _ (Nat.pow_le_pow_right (by decide) hd)
  have h2 : oddM mant * 2 ^ (53 - Lib.bitLen (oddM mant)) < 2 ^ Lib.bitLen (oddM mant) * 2 ^ (53 - Lib.bitLen (oddM mant)) := (Nat.mul_lt_mul_right (Nat.two_pow_pos _)).2 hb
  have h3 : 2 ^ Lib.bitLen (oddM mant) * 2 ^ (53 - Lib.bitLen (oddM mant)) = 2 ^ 53 := by rw [← Nat.pow_add]; congr 1; omega
  have h4 : (2 : Nat) ^ 53 = 2 * 4503599627370496 := rfl
  omega
theorem made_D (neg : Bool) (mant : Nat) (e : Int) (hb : mant < 18446744073709551616) (w : World) (hT : Tab w) :
    Calls Tryz.prog 150 #[.agg #[.bool neg, .int .u64 mant, .int .i64 e], dbl] w fun e' w' => e' = .returned (.tuple #[.int .u64 (madeD neg mant e), .int .i64 (madeED mant e)]) ∧ Within w w' := by
  by_cases h0 : mant = 0
  · subst h0
    have := madeZero_D neg e w
    simpa [madeD, madeED] using this
  have t1 : ((mant : Int) == 0) = false := beq_eq_false_iff_ne.2 (by omega)
  by_cases h1 : 2150 < e ∨ e < -2150
  · have hbad : badD mant e = true := by unfold badD; simp; omega
    have hv : (madeD neg mant e : Int) = 0 ∧ madeED mant e = 10 := by unfold madeD madeED; rw [if_neg h0, if_neg h0, if_pos hbad, if_pos hbad]; exact ⟨rfl, rfl⟩
    rw [hv.1, hv.2]
    exact madeFar_D neg mant e t1 h1 w
  obtain ⟨_, hz, hk⟩ := ctz_split mant h0 hb
  clear hz
  have hq := oddM_lt mant hb
  by_cases h3 : (53 : Nat) < Lib.bitLen (oddM mant) ∨ e + Lib.ctz 64 mant < -1074
  · have hbad : badD mant e = true := by unfold badD oddE; simp; omega
    have hv : (madeD neg mant e : Int) = 0 ∧ madeED mant e = 10 := by unfold madeD madeED; rw [if_neg h0, if_neg h0, if_pos hbad, if_pos hbad]; exact ⟨rfl, rfl⟩
    rw [hv.1, hv.2]
    exact madeBad_D neg mant (Lib.ctz 64 mant) (oddM mant) e hb t1 (by omega) (by omega) (Lib.hid hk) (Lib.hid rfl) (Lib.hid rfl) (Lib.hid hq) h3 w hT
  have hbad : badD mant e = false := by unfold badD oddE; simp; omega
  have htop := topD_lt mant e hb hbad
  have hnb : ¬ (badD mant e = true) := by simp [hbad]
  have hl : Lib.bitLen (oddM mant) ≤ 53 := by omega
  have hD : min ((53 : Int) - Lib.bitLen (oddM mant)) (e + Lib.ctz 64 mant + 1074) = downD mant e := by unfold downD oddE; omega
  have hD2 : downD mant e < 64 := by unfold downD; omega
  by_cases h4 : topD mant e < 4503599627370496
  · have hf : fieldD mant e = 0 := by unfold fieldD; rw [if_pos h4]
    have hv : madeD neg mant e = joinD neg 0 (topD mant e) ∧ madeED mant e = joinED 0 (topD mant e) := by
      unfold madeD madeED; rw [if_neg h0, if_neg h0, if_neg hnb, if_neg hnb, hf, if_neg (by decide), if_neg (by decide), Nat.mod_eq_of_lt h4]; exact ⟨rfl, rfl⟩
    rw [hv.1, hv.2]
    exact madeLow_D neg mant (Lib.ctz 64 mant) (oddM mant) (downD mant e) (topD mant e) e hb t1 (by omega) (by omega) (Lib.hid hk) (Lib.hid rfl) (Lib.hid rfl) (Lib.hid hq) hD (by omega) (by omega) (Lib.hid hD2) (Lib.hid rfl) (Lib.hid (by omega)) (by omega) w hT
  have hf : fieldD mant e = e + Lib.ctz 64 mant - downD mant e + 1075 := by unfold fieldD oddE; rw [if_neg h4]
  by_cases h5 : 2047 ≤ fieldD mant e
  · have hv : (madeD neg mant e : Int) = 0 ∧ madeED mant e = 10 := by
      unfold madeD madeED; rw [if_neg h0, if_neg h0, if_neg hnb, if_neg hnb, if_pos h5, if_pos h5]; exact ⟨rfl, rfl⟩
    rw [hv.1, hv.2]
    exact madeOver_D neg mant (Lib.ctz 64 mant) (oddM mant) (downD mant e) (topD mant e) e hb t1 (by omega) (by omega) (Lib.hid hk) (Lib.hid rfl) (Lib.hid rfl) (Lib.hid hq) hD (by omega) (by omega) (Lib.hid hD2) (Lib.hid rfl) (Lib.hid (by omega)) (by omega) (by omega) w hT
  · have hmod : topD mant e % 4503599627370496 = topD mant e - 4503599627370496 := by omega
    have hv : madeD neg mant e = joinD neg (e + Lib.ctz 64 mant - downD mant e + 1075) (topD mant e - 4503599627370496) ∧ madeED mant e = joinED (e + Lib.ctz 64 mant - downD mant e + 1075) (topD mant e - 4503599627370496) := by
      unfold madeD madeED; rw [if_neg h0, if_neg h0, if_neg hnb, if_neg hnb, if_neg h5, if_neg h5, hmod, hf]; exact ⟨rfl, rfl⟩
    rw [hv.1, hv.2]
    exact madeNorm_D neg mant (Lib.ctz 64 mant) (oddM mant) (downD mant e) (topD mant e) e hb t1 (by omega) (by omega) (Lib.hid hk) (Lib.hid rfl) (Lib.hid rfl) (Lib.hid hq) hD (by omega) (by omega) (Lib.hid hD2) (Lib.hid rfl) (Lib.hid (by omega)) (by omega) htop (by omega) w hT
set_option maxRecDepth 100000 in
set_option maxHeartbeats 600000 in
theorem Class_D (a : Nat) (ha : a < 18446744073709551616) (w : World) : Calls Tryz.prog 116 #[.float .f64 a] w fun e w' => e = .returned (.int .i64 (classD a)) ∧ Within w w' := by
  have HA := Lib.hid ha; clear ha
  go_enter Tryz.func116, Tryz.ntmps116
  go_wp2_with fail
  refine (of_D _).mono ?_; rintro e1 w1 ⟨rfl, hb1⟩
  go_wp2_with fail
  refine (class_D a HA.out _).mono ?_; rintro e2 w2 ⟨rfl, hb2⟩
  go_wp2
  go_ret
  exact ⟨rfl, (by repeat (first | with_reducible exact Within.refl _ | with_reducible assumption | with_reducible refine Within.alloc ?_ _ | with_reducible refine Within.drew ?_ | with_reducible refine Within.setCell ?_ (by first | (simp; done) | (simp; omega)) _ | with_reducible refine Within.trans ?_ (by assumption)))⟩
set_option maxRecDepth 100000 in
set_option maxHeartbeats 600000 in
theorem number_D (b : Nat) (e : Int) (w : World) : Calls Tryz.prog 149 #[.int .u64 b, .int .i64 e] w fun e' w' => e' = .returned (.tuple #[.float .f64 b, .int .i64 e]) ∧ Within w w' := by
  go_enter Tryz.func149, Tryz.ntmps149
  go_wp2
  go_ret2
  exact ⟨rfl, (by repeat (first | with_reducible exact Within.refl _ | with_reducible assumption | with_reducible refine Within.alloc ?_ _ | with_reducible refine Within.drew ?_ | with_reducible refine Within.setCell ?_ (by first | (simp; done) | (simp; omega)) _ | with_reducible refine Within.trans ?_ (by assumption)))⟩
set_option maxRecDepth 100000 in
set_option maxHeartbeats 600000 in
theorem Parts_D (a : Nat) (ha : a < 18446744073709551616) (w : World) (hT : Tab w) : Calls Tryz.prog 117 #[.float .f64 a] w fun e w' => e = .returned (.tuple #[.agg #[.bool (pNegD a), .int .u64 (pMantD a), .int .i64 (pExpD a)], .int .i64 (pErrD a)]) ∧ Within w w' := by
  have HA := Lib.hid ha; clear ha
  go_enter Tryz.func117, Tryz.ntmps117
  go_wp2_with fail
  refine (of_D _).mono ?_; rintro e1 w1 ⟨rfl, hb1⟩
  go_wp2_with fail
  refine (parts_D a HA.out _ (hT.of (by repeat (first | with_reducible exact Within.refl _ | with_reducible assumption | with_reducible refine Within.alloc ?_ _ | with_reducible refine Within.drew ?_ | with_reducible refine Within.setCell ?_ (by first | (simp; done) | (simp; omega)) _ | with_reducible refine Within.trans ?_ (by assumption))))).mono ?_; rintro e2 w2 ⟨rfl, hb2⟩
  have hf1 := hb1.frozens; have hc1 := hb1.cells; have hf2 := hb2.frozens; have hc2 := hb2.cells
  have hz1 : w.heap.size < w1.heap.size := (by have := hb1.sizes; simp at this; omega)
  have hz2 : w.heap.size < w2.heap.size := (by have := hb2.sizes; omega)
  go_wp2
  refine bodyPost_ret (v := .tuple #[.agg #[.bool (pNegD a), .int .u64 (pMantD a), .int .i64 (pExpD a)], .int .i64 (pErrD a)]) (by simp [results, Tryz.results117, go_sem, hc1, hc2, hz1]) rfl ⟨rfl, ?_⟩
  exact (by repeat (first | with_reducible exact Within.refl _ | with_reducible assumption | with_reducible refine Within.alloc ?_ _ | with_reducible refine Within.drew ?_ | with_reducible refine Within.setCell ?_ (by first | (simp; done) | (simp; omega)) _ | with_reducible refine Within.trans ?_ (by assumption)))
set_option maxRecDepth 100000 in
set_option maxHeartbeats 600000 in
theorem Of_D (neg : Bool) (mant : Nat) (e : Int) (hm : mant < 18446744073709551616) (w : World) (hT : Tab w) : Calls Tryz.prog 118 #[.agg #[.bool neg, .int .u64 mant, .int .i64 e]] w fun e' w' => e' = .returned (.tuple #[.float .f64 (madeD neg mant e), .int .i64 (madeED mant e)]) ∧ Within w w' := by
  have HA := Lib.hid hm; clear hm
  go_enter Tryz.func118, Tryz.ntmps118
  go_wp2
  refine wp_region_within (by kernel_rfl) (by kernel_rfl) ?_
  repeat
    apply wpq_step rfl
    · intro wq hCq
      have hcq := hCq.cells
      go_simp
      first | rfl | exact hCq.call (of_D _) | exact hCq.call (made_D neg mant e HA.out _ (hT.of (((Within.refl _).alloc _).trans hCq))) | exact hCq.call (number_D _ _ _) | (trace_state; fail)
    simp only [Act.put, List.setIfInBounds_toArray, List.set_cons_zero, List.set_cons_succ]
  refine wpQuiet_nil ?_
  intro w1 hC1
  go_wp2
  go_ret2
  exact ⟨rfl, (by repeat (first | with_reducible exact Within.refl _ | with_reducible assumption | with_reducible refine Within.alloc ?_ _ | with_reducible refine Within.drew ?_ | with_reducible refine Within.setCell ?_ (by first | (simp; done) | (simp; omega)) _ | with_reducible refine Within.trans ?_ (by assumption)))⟩
end Go.Proofs.YtjmaggfddinbkaaGreatDoor
end

section
namespace Go.Proofs.YtjmaggfddinbkaaGreatDoor.Fp
open Ieee
variable (f : Format)
def num (s : Bool) (n : Nat) : Nat := f.word s (grid f n 0)
def Rep (n : Nat) : Prop := grid f n 0 < f.infRung ∧ mag f (grid f n 0) = n
def Is (a : Nat) (s : Bool) (n : Nat) : Prop := a < 2 ^ f.width ∧ rg f a < f.infRung ∧ sg f a = s ∧ mag f (rg f a) = n
theorem grid_of_mag (hF : 1 ≤ f.fractionBits) (r : Nat) : grid f (mag f r) 0 = r := by
  have := grid_mag f hF r 0
  rwa [Nat.pow_zero, Nat.mul_one] at this
theorem rep_mag (hF : 1 ≤ f.fractionBits) {r : Nat} (h : r < f.infRung) : Rep f (mag f r) := by
  unfold Rep; rw [grid_of_mag f hF]; exact ⟨h, rfl⟩
variable {f}
theorem Is.rep {a : Nat} {s : Bool} {n : Nat} (hF : 1 ≤ f.fractionBits) (h : Is f a s n) : Rep f n := by
  obtain ⟨_, h2, _, h4⟩ := h
  rw [← h4]; exact rep_mag f hF h2
theorem Is.eq {a : Nat} {s : Bool} {n : Nat} (hF : 1 ≤ f.fractionBits) (h : Is f a s n) : a = num f s n := by
  obtain ⟨h1, _, h3, h4⟩ := h
  unfold num
  rw [← h4, grid_of_mag f hF, ← h3]
  exact (word_sg_rg f a h1).symm
theorem Rep.is {n : Nat} (h : Rep f n) (s : Bool) : Is f (num f s n) s n := by
  obtain ⟨h1, h2⟩ := h
  have hl := inf_lt f
  have h3 : grid f n 0 < f.signWeight := by omega
  refine ⟨?_, by unfold num; rw [rg_word f s _ h3]; exact h1, sg_word f s _ h3, by unfold num; rw [rg_word f s _ h3]; exact h2⟩
  rw [width_eq]
  unfold num Format.word
  split <;> omega
variable (f)
def sgap : Nat := 925
def dtop : Nat := 2098
theorem pow_join {a b c : Nat} (h : a + b = c) : 2 ^ a * 2 ^ b = 2 ^ c := by rw [← Nat.pow_add, h]
theorem mag_infD : mag double double.infRung = 2 ^ dtop := by
  have e : mag double double.infRung = (4503599627370496 + 9218868437227405312 % 4503599627370496) * 2 ^ (9218868437227405312 / 4503599627370496 - 1) := by
    unfold mag; rw [if_neg (by decide), dB, dI]
  obtain ⟨k, hk⟩ : ∃ k, k = 9218868437227405312 / 4503599627370496 - 1 := ⟨_, rfl⟩
  have e2 : 4503599627370496 + 9218868437227405312 % 4503599627370496 = 2 ^ 52 := by omega
  rw [← hk, e2] at e
  exact e.trans (pow_join (by unfold dtop; omega))
theorem top_aux {a b c d : Nat} (h : a + b + c ≤ d) : 2 ^ a * 2 ^ b * 2 ^ c ≤ 2 ^ d := by
  rw [← Nat.pow_add, ← Nat.pow_add]; exact Nat.pow_le_pow_right (by decide) h
theorem top_le : mag single single.infRung * 2 ^ sgap ≤ 2 ^ dtop := by
  have h : mag single single.infRung ≤ 2 ^ 200 * 2 ^ 200 := by decide +kernel
  exact Nat.le_trans (Nat.mul_le_mul_right _ h) (top_aux (by unfold sgap dtop; omega))
theorem mul_is (hl : f.leastPlace ≤ 0) {a b n m p : Nat} {s t : Bool} (ha : Is f a s n) (hb : Is f b t m) (h : n * m = p * 2 ^ deep f) (hp : Rep f p) : f.mul a b = some (num f (s ^^ t) p) := by
  obtain ⟨_, a2, a3, a4⟩ := ha
  obtain ⟨_, b2, b3, b4⟩ := hb
  rw [mul_fin f hl a b a2 b2, a3, a4, b3, b4, h]
  have g := grid_shift f p (deep f) 0
  rw [Nat.zero_add] at g
  rw [g, Nat.min_eq_left (Nat.le_of_lt hp.1)]; rfl
def val (s : Bool) (n : Nat) : Int := if s then -(n : Int) else n
theorem Is.un {f : Format} {a : Nat} {s : Bool} {n : Nat} (h : Is f a s n) : un f a = val s n := by
  obtain ⟨_, _, h3, h4⟩ := h
  unfold Fp.un val; rw [h3, h4]
theorem Is.read {f : Format} {a n : Nat} {s : Bool} (h : Is f a s n) : ∃ m e, f.read a = .number s m e ∧ f.leastPlace ≤ e ∧ m * 2 ^ (e - f.leastPlace).toNat = n := by
  obtain ⟨_, h2, h3, h4⟩ := h
  obtain ⟨m, e, r1, l1, u1⟩ := read_fin f a h2
  exact ⟨m, e, by rw [r1, h3], l1, by rw [u1, h4]⟩
end Go.Proofs.YtjmaggfddinbkaaGreatDoor.Fp
end

section
namespace Go.Proofs.YtjmaggfddinbkaaGreatDoor
open Go.RowKit
theorem ne_self64 (a : Nat) : (FloatKind.f64.format.order a a != some .eq) = nanD a := by
  have := Fp.order64_self a
  show (!(Ieee.double.order a a == some .eq)) = _
  rw [this, Bool.not_not]; rfl
theorem canonD_nan {a : Nat} (h : nanD a = true) : canonD a = 9221120237041090561 := if_pos h
theorem canonD_id {a : Nat} (h : nanD a = false) : canonD a = a := by unfold canonD; rw [if_neg (by simp [h])]
theorem odd_split {x : Nat} (h : x ≠ 0) (hx : x < 18446744073709551616) : ∃ m, oddM x = 2 * m + 1 ∧ x = 2 ^ Lib.ctz 64 x * (2 * m + 1) ∧ Lib.ctz 64 x < 64 := by
  obtain ⟨m, h1, h2⟩ := ctz_split x h hx
  refine ⟨m, ?_, h1, h2⟩
  unfold oddM
  have hp := Nat.two_pow_pos (Lib.ctz 64 x)
  generalize Lib.ctz 64 x = k at *
  rw [h1, Nat.mul_div_cancel_left _ hp]
set_option maxRecDepth 100000 in
set_option maxHeartbeats 600000 in
theorem Rbits_D (a : Nat) (w : World) : Calls Tryz.prog 94 #[.float .f64 a] w fun e w' => e = .returned (.int .u64 (canonD a)) ∧ w = w' := by
  cases hn : nanD a
  · rw [canonD_id hn]
    have hx : (FloatKind.f64.format.order a a != some .eq) = false := by rw [ne_self64]; exact hn
    clear hn
    go_enter Tryz.func94, Tryz.ntmps94
    go_wp2
    go_ret
    exact ⟨rfl, rfl⟩
  · rw [canonD_nan hn]
    have hx : (FloatKind.f64.format.order a a != some .eq) = true := by rw [ne_self64]; exact hn
    clear hn
    go_enter Tryz.func94, Tryz.ntmps94
    go_wp2
    go_ret
    exact ⟨rfl, rfl⟩
set_option maxRecDepth 100000 in
set_option maxHeartbeats 600000 in
theorem Rsplit_D (a : Nat) (ha : a < 18446744073709551616) (w : World) : Calls Tryz.prog 127 #[.float .f64 a] w fun e w' => e = .returned (.tuple #[.bool (negD a), .int .i64 (expD a), .int .u64 (fracD a)]) ∧ w = w' := by
  have HL := Lib.hid (canonD_lt ha)
  unfold negD expD fracD
  clear ha
  have HB := Lib.hid (fun w => Rbits_D a w)
  generalize canonD a = c at *
  go_enter Tryz.func127, Tryz.ntmps127
  go_wp2_with fail
  refine (HB.out _).mono ?_; rintro e1 w1 ⟨rfl, rfl⟩
  go_wp2
  go_ret3
  refine ⟨ret3 (v_bool ?_) (v_int ?_) (v_int ?_), rfl⟩
  · show ((c : Int) / 9223372036854775808 == 1) = _
    rw [Bool.eq_iff_iff, beq_iff_eq, decide_eq_true_iff]; have := HL.out; omega
  · show ((c : Int) / 4503599627370496 % 2048) = _
    omega
  · show ((c : Int) % 4503599627370496) = _
    omega
@[go_sem] theorem run_neg64 (P : Program) (a : Nat) (w : World) : Sem.run P (Op.unary UnOp.neg (Value.float .f64 a)) w = .ok (.float .f64 (Go.Op.negFloat .f64 a)) w := rfl
@[go_sem] theorem run_neg32 (P : Program) (a : Nat) (w : World) : Sem.run P (Op.unary UnOp.neg (Value.float .f32 a)) w = .ok (.float .f32 (Go.Op.negFloat .f32 a)) w := rfl
theorem mant_down {mant cz m M : Nat} (hcz : cz < 64) (hs : mant = 2 ^ cz * (2 * m + 1)) (hM : M = 2 * m + 1) : ∀ i, i ≤ cz →
    0 < mant / 2 ^ i ∧ (i = cz → mant / 2 ^ i = M ∧ mant / 2 ^ i % 2 = 1) ∧ (i < cz → mant / 2 ^ i % 2 = 0 ∧ mant / 2 ^ i / 2 = mant / 2 ^ (i + 1)) := by
  intro i hi
  obtain ⟨d, rfl⟩ : ∃ d, cz = i + d := ⟨cz - i, by omega⟩
  have e1 : mant / 2 ^ i = 2 ^ d * (2 * m + 1) := by
    rw [hs, Nat.pow_add, Nat.mul_assoc, Nat.mul_div_cancel_left _ (Nat.two_pow_pos i)]
  have e2 : mant / 2 ^ i / 2 = mant / 2 ^ (i + 1) := by rw [Nat.div_div_eq_div_mul, Nat.pow_succ]
  rw [e1] at *
  refine ⟨Nat.mul_pos (Nat.two_pow_pos _) (by omega), fun h => ?_, fun h => ⟨?_, e2⟩⟩
  · have : d = 0 := by omega
    subst this
    rw [Nat.pow_zero, Nat.one_mul]; omega
  · obtain ⟨d', rfl⟩ : ∃ d', d = d' + 1 := ⟨d - 1, by omega⟩
    rw [Nat.pow_succ, Nat.mul_right_comm]; omega
theorem nan_parts {a : Nat} (h : pErrD a ≠ 0) : pNegD a = false ∧ pMantD a = 0 ∧ pExpD a = 0 ∧ pErrD a = 4 := by
  unfold pErrD at h
  by_cases h7 : expD a = 2047
  · unfold pNegD pMantD pExpD pErrD; rw [if_pos h7, if_pos h7, if_pos (.inl h7), if_pos h7]; exact ⟨rfl, rfl, rfl, rfl⟩
  · rw [if_neg h7] at h; exact absurd rfl h
theorem fin_neg {a : Nat} (h : pErrD a = 0) : pNegD a = negD a := by
  unfold pErrD at h
  by_cases h7 : expD a = 2047
  · rw [if_pos h7] at h; omega
  · unfold pNegD; rw [if_neg h7]
set_option maxRecDepth 100000 in
set_option maxHeartbeats 600000 in
theorem Rodd_zero (e : Int) (w : World) : Calls Tryz.prog 128 #[.int .u64 0, .int .i64 e] w fun e' w' => e' = .returned (.tuple #[.int .u64 0, .int .i64 0]) ∧ w = w' := by
  go_enter Tryz.func128, Tryz.ntmps128
  go_wp2
  go_ret2
  exact ⟨rfl, rfl⟩
set_option maxRecDepth 100000 in
set_option maxHeartbeats 600000 in
theorem Rodd_any (mant : Nat) (e : Int) (h0 : mant ≠ 0) (hm : mant < 18446744073709551616) (hlo : -1099511627776 ≤ e) (hhi : e ≤ 1099511627776) (w : World) : Calls Tryz.prog 128 #[.int .u64 mant, .int .i64 e] w fun e' w' => e' = .returned (.tuple #[.int .u64 (oddM mant), .int .i64 (oddE mant e)]) ∧ w = w' := by
  have m0 : ((mant : Int) == 0) = false := by rw [beq_eq_false_iff_ne]; omega
  obtain ⟨m, ho, hs, hcz⟩ := odd_split h0 hm
  have hE : oddE mant e = e + (Lib.ctz 64 mant : Nat) := rfl
  generalize Lib.ctz 64 mant = cz at *
  generalize oddM mant = M at *
  generalize oddE mant e = E at *
  have HV := Lib.hid (mant_down hcz hs ho)
  have HB := Lib.hid (And.intro (And.intro hlo hhi) (And.intro hcz hE))
  have HML := Lib.hid hm
  clear hcz hs ho hE hlo hhi hm h0
  go_enter Tryz.func128, Tryz.ntmps128
  go_wp2
  go_loopw [0, 1] (fun t u wr => ∃ i : Nat, i ≤ cz ∧ t = .int .u64 (mant / 2 ^ i : Nat) ∧ u = .int .i64 (e + i) ∧ w = wr) (fun _ u _ => cz - (intOf u - e).toNat)
  case atStart => exact ⟨0, Nat.zero_le _, by rw [Nat.pow_zero, Nat.div_one], by rw [show e + ((0 : Nat) : Int) = e by omega], rfl⟩
  case round =>
    obtain ⟨i, hi, rfl, rfl, rfl⟩ := hrel
    have V := HV.out i hi
    have HI := Lib.hid hi
    by_cases hic : i = cz
    · have hp : (((mant / 2 ^ i : Nat) : Int) % 2 == 0) = false := by rw [beq_eq_false_iff_ne]; have := V.2.1 hic; omega
      have hM : mant / 2 ^ i = M := (V.2.1 hic).1
      have hE : e + (i : Int) = E := by have := HB.out.2.2; omega
      rw [hM] at hp ⊢; rw [hE]
      clear V hi hic hM hE
      go_wp2
      go_ret2
      exact ⟨rfl, rfl⟩
    · have hp : (((mant / 2 ^ i : Nat) : Int) % 2 == 0) = true := by rw [beq_iff_eq]; have := V.2.2 (by omega); omega
      have hn := (V.2.2 (by omega)).2
      have hvl : mant / 2 ^ i < 18446744073709551616 := Nat.lt_of_le_of_lt (Nat.div_le_self _ _) HML.out
      have g : IntKind.i64.wrap (e + (i : Int) + 1) = e + ((i + 1 : Nat) : Int) := by have := HB.out.1; have := HB.out.2.1; rw [IntKind.wrap_i64]; omega
      have HN := Lib.hid hic
      have hd : ((mant / 2 ^ i : Nat) : Int) / 2 = ((mant / 2 ^ (i + 1) : Nat) : Int) := by rw [← hn]; omega
      obtain ⟨v, hv⟩ : ∃ v, mant / 2 ^ i = v := ⟨_, rfl⟩
      rw [hv] at hp hd hvl ⊢
      obtain ⟨v', hv'⟩ : ∃ v', mant / 2 ^ (i + 1) = v' := ⟨_, rfl⟩
      rw [hv'] at hd
      have gw : IntKind.u64.wrap (v' : Int) = v' := by rw [IntKind.wrap_u64]; omega
      have HVL := Lib.hid hv'
      clear V hi hic hn hv hv' hvl
      go_wp2
      go_roundw
      case rel => exact ⟨i + 1, by have := HI.out; have := HN.out; omega, by rw [HVL.out], v_int (by omega), by first | trivial | rfl⟩
      case measure => have := HI.out; have := HN.out; simp [intOf]; omega
set_option maxRecDepth 100000 in
set_option maxHeartbeats 600000 in
theorem Rparts_nan (a fr : Nat) (ng : Bool) (w : World) (SP : Hid (∀ w, Calls Tryz.prog 127 #[.float .f64 a] w fun e w' => e = .returned (.tuple #[.bool ng, .int .i64 2047, .int .u64 fr]) ∧ w = w')) : Calls Tryz.prog 96 #[.float .f64 a] w fun e w' => e = .returned (.tuple #[.agg #[.bool false, .int .u64 0, .int .i64 0], .int .i64 4]) ∧ Within w w' := by
  go_enter Tryz.func96, Tryz.ntmps96
  go_wp2_with fail
  refine (SP.out _).mono ?_; rintro e1 w1 ⟨rfl, rfl⟩
  go_wp2
  refine bodyPost_ret (v := .tuple #[.agg #[.bool false, .int .u64 0, .int .i64 0], .int .i64 4]) (by simp [results, Tryz.results96, go_sem]) rfl ⟨rfl, ?_⟩
  exact (by repeat (first | with_reducible exact Within.refl _ | with_reducible assumption | with_reducible refine Within.alloc ?_ _ | with_reducible refine Within.drew ?_ | with_reducible refine Within.setCell ?_ (by first | (simp; done) | (simp; omega)) _ | with_reducible refine Within.trans ?_ (by assumption)))
set_option maxRecDepth 100000 in
set_option maxHeartbeats 600000 in
theorem Rparts_low (a fr M : Nat) (E : Int) (ng : Bool) (w : World) (SP : Hid (∀ w, Calls Tryz.prog 127 #[.float .f64 a] w fun e w' => e = .returned (.tuple #[.bool ng, .int .i64 0, .int .u64 fr]) ∧ w = w')) (OD : Hid (∀ w, Calls Tryz.prog 128 #[.int .u64 fr, .int .i64 (-1074)] w fun e w' => e = .returned (.tuple #[.int .u64 M, .int .i64 E]) ∧ w = w')) : Calls Tryz.prog 96 #[.float .f64 a] w fun e w' => e = .returned (.tuple #[.agg #[.bool ng, .int .u64 M, .int .i64 E], .int .i64 0]) ∧ Within w w' := by
  go_enter Tryz.func96, Tryz.ntmps96
  go_wp2_with fail
  refine (SP.out _).mono ?_; rintro e1 w1 ⟨rfl, rfl⟩
  go_wp2_with fail
  refine (OD.out _).mono ?_; rintro e2 w2 ⟨rfl, rfl⟩
  go_wp2
  refine bodyPost_ret (v := .tuple #[.agg #[.bool ng, .int .u64 M, .int .i64 E], .int .i64 0]) (by simp [results, Tryz.results96, go_sem]) rfl ⟨rfl, ?_⟩
  exact (by repeat (first | with_reducible exact Within.refl _ | with_reducible assumption | with_reducible refine Within.alloc ?_ _ | with_reducible refine Within.drew ?_ | with_reducible refine Within.setCell ?_ (by first | (simp; done) | (simp; omega)) _ | with_reducible refine Within.trans ?_ (by assumption)))
set_option maxRecDepth 100000 in
set_option maxHeartbeats 600000 in
theorem Rparts_norm (a fr M q g : Nat) (E e0 : Int) (ng : Bool) (w : World) (hq : 0 < q) (hq2 : q < 2047) (g1 : IntKind.u64.wrap ((fr : Int) + 4503599627370496) = (g : Int)) (g3 : IntKind.i64.wrap (((q - 1 : Nat) : Int) - 1074) = e0) (SP : Hid (∀ w, Calls Tryz.prog 127 #[.float .f64 a] w fun e w' => e = .returned (.tuple #[.bool ng, .int .i64 (q : Nat), .int .u64 fr]) ∧ w = w')) (OD : Hid (∀ w, Calls Tryz.prog 128 #[.int .u64 g, .int .i64 (e0)] w fun e w' => e = .returned (.tuple #[.int .u64 M, .int .i64 E]) ∧ w = w')) : Calls Tryz.prog 96 #[.float .f64 a] w fun e w' => e = .returned (.tuple #[.agg #[.bool ng, .int .u64 M, .int .i64 E], .int .i64 0]) ∧ Within w w' := by
  have n1 : ((q : Int) == 2047) = false := by rw [beq_eq_false_iff_ne]; omega
  have d1 : decide ((q : Int) > 0) = true := decide_eq_true (by omega)
  have t1 : 0 < q := hq
  have g2 : IntKind.i64.wrap ((q : Int) - 1) = ((q - 1 : Nat) : Int) := by rw [IntKind.wrap_i64]; omega
  generalize q - 1 = q1 at *
  clear hq hq2
  go_enter Tryz.func96, Tryz.ntmps96
  go_wp2_with fail
  refine (SP.out _).mono ?_; rintro e1 w1 ⟨rfl, rfl⟩
  go_wp2_with fail
  refine (OD.out _).mono ?_; rintro e2 w2 ⟨rfl, rfl⟩
  go_wp2
  refine bodyPost_ret (v := .tuple #[.agg #[.bool ng, .int .u64 M, .int .i64 E], .int .i64 0]) (by simp [results, Tryz.results96, go_sem]) rfl ⟨rfl, ?_⟩
  exact (by repeat (first | with_reducible exact Within.refl _ | with_reducible assumption | with_reducible refine Within.alloc ?_ _ | with_reducible refine Within.drew ?_ | with_reducible refine Within.setCell ?_ (by first | (simp; done) | (simp; omega)) _ | with_reducible refine Within.trans ?_ (by assumption)))
theorem Rparts_D (a : Nat) (ha : a < 18446744073709551616) (w : World) : Calls Tryz.prog 96 #[.float .f64 a] w fun e w' => e = .returned (.tuple #[.agg #[.bool (pNegD a), .int .u64 (pMantD a), .int .i64 (pExpD a)], .int .i64 (pErrD a)]) ∧ Within w w' := by
  have SP := Lib.hid (fun w => Rsplit_D a ha w)
  have hq : expD a < 2048 := Nat.mod_lt _ (by decide)
  have hfr : fracD a < 4503599627370496 := Nat.mod_lt _ (by decide)
  by_cases h7 : expD a = 2047
  · have np := nan_parts (a := a) (by unfold pErrD; rw [if_pos h7]; decide)
    rw [np.1, np.2.1, np.2.2.1, np.2.2.2]; rw [h7] at SP; exact Rparts_nan a _ _ w SP
  have pe : pErrD a = 0 := by unfold pErrD; rw [if_neg h7]
  rw [fin_neg pe, pe]
  by_cases h0 : expD a = 0
  · have hM : mantD a = fracD a := if_pos h0
    have hl : lowD a = -1074 := by unfold lowD; rw [if_pos h0]; rfl
    rw [h0] at SP
    by_cases hf : fracD a = 0
    · have p1 : pMantD a = 0 := by unfold pMantD; rw [if_neg h7, hM, hf]; exact Nat.zero_div _
      have p2 : pExpD a = 0 := if_pos (.inr (by rw [hM, hf]))
      rw [p1, p2]; rw [hf] at SP
      exact Rparts_low a 0 0 0 _ w SP (fun w => Rodd_zero (-1074) w)
    · have p1 : pMantD a = oddM (fracD a) := by unfold pMantD oddM; rw [if_neg h7, hM]
      have p2 : pExpD a = oddE (fracD a) (-1074) := by unfold pExpD oddE; rw [if_neg (by omega), hM, hl]
      rw [p1, p2]
      exact Rparts_low a _ _ _ _ w SP (fun w => Rodd_any (fracD a) (-1074) hf (by omega) (by decide) (by decide) w)
  · have hM : mantD a = fracD a + 4503599627370496 := if_neg h0
    have hl : lowD a = (expD a : Int) - 1075 := by unfold lowD; rw [if_neg h0]
    have p1 : pMantD a = oddM (fracD a + 4503599627370496) := by unfold pMantD oddM; rw [if_neg h7, hM]
    have p2 : pExpD a = oddE (fracD a + 4503599627370496) ((expD a : Int) - 1075) := by unfold pExpD oddE; rw [if_neg (by omega), hM, hl]
    rw [p1, p2]
    exact Rparts_norm a _ _ (expD a) (fracD a + 4503599627370496) _ ((expD a : Int) - 1075) _ w (by omega) (by omega) (by rw [IntKind.wrap_u64]; omega) (by rw [IntKind.wrap_i64]; omega) SP (fun w => Rodd_any (fracD a + 4503599627370496) ((expD a : Int) - 1075) (by omega) (by omega) (by omega) (by omega) w)
end Go.Proofs.YtjmaggfddinbkaaGreatDoor
end

section
namespace Go.Proofs.YtjmaggfddinbkaaGreatDoor
open Go.RowKit
def f64v (l : List Nat) : List Value := l.map fun (x : Nat) => .float .f64 x
theorem f64v_len (l : List Nat) : (f64v l).length = l.length := List.length_map ..
theorem add_block (a : Addr) (n : Nat) : (a.add n).block = a.block := by unfold Addr.add; split <;> rfl
theorem add_add (a : Addr) (i j : Nat) : (a.add i).add j = a.add (i + j) := by
  unfold Addr.add
  by_cases hi : i = 0 <;> by_cases hj : j = 0 <;> simp [hi, hj, Nat.add_assoc]
theorem add_nought (a : Addr) : a.add 0 = a := by unfold Addr.add; rw [if_pos rfl]
def SlAt (w : World) (A : Option Addr) (xs : List Value) : Prop := 0 < xs.length → ∃ ad, A = some ad ∧ ad.block < w.heap.size ∧ ∀ (j : Nat) u, xs[j]? = some u → w.cell? (ad.add j) = some u
theorem SlAt.nil {w : World} {A : Option Addr} : SlAt w A [] := fun h => absurd h (by simp)
theorem SlAt.of {w w' : World} {A : Option Addr} {xs : List Value} (h : SlAt w A xs) (k : Within w w') : SlAt w' A xs := fun hn => by
  obtain ⟨ad, e, hb, hc⟩ := h hn
  exact ⟨ad, e, Nat.lt_of_lt_of_le hb k.size, fun j u hu => (k.cell (by rw [add_block]; exact hb)).trans (hc j u hu)⟩
theorem SlAt.below {w w' : World} {A : Option Addr} {xs : List Value} {B : Nat} (h : SlAt w A xs) (hA : ∀ ad, A = some ad → ad.block < B) (k : Below B w w') : SlAt w' A xs := fun hn => by
  obtain ⟨ad, e, hb, hc⟩ := h hn
  exact ⟨ad, e, Nat.lt_of_lt_of_le hb k.size, fun j u hu => (k.cell (by rw [add_block]; exact hA ad e)).trans (hc j u hu)⟩
theorem SlAt.at {w : World} {A : Option Addr} {l : List Nat} {v : Nat → Value} (h : SlAt w A (l.map v)) {k : Nat} (hk : k < l.length) : ∃ ad, A = some ad ∧ ad.block < w.heap.size ∧ w.cell? (ad.add k) = some (v (l.getD k 0)) := by
  obtain ⟨ad, e, hb, hc⟩ := h (by rw [List.length_map]; omega)
  refine ⟨ad, e, hb, hc k _ ?_⟩
  rw [List.getElem?_map, List.getElem?_eq_getElem hk, Option.map_some]
  simp [List.getD, List.getElem?_eq_getElem hk]
theorem SlAt.take {w : World} {A : Option Addr} {xs : List Value} (h : SlAt w A xs) (k : Nat) : SlAt w A (xs.take k) := fun hn => by
  obtain ⟨ad, e, hb, hc⟩ := h (Nat.lt_of_lt_of_le hn (List.length_take_le' _ _))
  refine ⟨ad, e, hb, fun j u hu => hc j u ?_⟩
  rw [List.getElem?_take] at hu
  split at hu
  · exact hu
  · cases hu
theorem SlAt.drop {w : World} {ad : Addr} {xs : List Value} (h : SlAt w (some ad) xs) (k : Nat) : SlAt w (some (ad.add k)) (xs.drop k) := fun hn => by
  obtain ⟨ad', e, hb, hc⟩ := h (by rw [List.length_drop] at hn; omega)
  obtain rfl := Option.some.inj e
  refine ⟨_, rfl, by rw [add_block]; exact hb, fun j u hu => ?_⟩
  rw [add_add]
  exact hc _ u (by rw [← hu, List.getElem?_drop])
theorem f64v_one (l : List Nat) : ∀ u ∈ f64v l, u.oneCell' = true := fun u hu => by
  obtain ⟨x, _, rfl⟩ := List.mem_map.1 hu; rfl
theorem owns_form {w : World} {base : Nat} {E : TypeId} {v : Value} {n : Nat} {xs : List Value} (h : w.ownsRow base E 1 v n xs) : ∃ A c, v = .slice A n c ∧ n ≤ c ∧ SlAt w A xs ∧ (∀ ad, A = some ad → base ≤ ad.block) := by
  have hlen : xs.length = n := by have := h.1; simpa using this
  rcases h.2 with ⟨rfl, h0⟩ | ⟨g, cap, cur, rfl, hg, hb, hc, _, hsz, htk⟩
  · exact ⟨none, 0, by rw [h0], by omega, fun hn => by omega, fun ad e => by cases e⟩
  · refine ⟨_, _, rfl, hc, fun hn => ?_, fun ad e => by injection e with e; subst e; exact hg⟩
    obtain ⟨hlt, _⟩ := Array.getElem?_eq_some_iff.1 hb
    exact ⟨_, rfl, hlt, h.cells (g := g) rfl⟩
theorem run_app_nil {P : Program} (w : World) (base : Nat) (t ty e : TypeId) (i : TypeInfo) (ht : P.underlying t = some (.slice e)) (hi : P.info? e = some i)
    (v : Value) (n : Nat) (xs : List Value) (hown : w.ownsRow base e 1 v n xs) (c : Nat) : (Builtin.append_ #[t, t] ty #[v, .slice none 0 c]).run P w = .ok v w := by
  rcases hown.2 with ⟨rfl, rfl⟩ | ⟨g, cap, cur, rfl, _, _, hnc, _⟩
  · simp [Builtin.append_, run_underlying ht, sizeOf, typeInfo, hi, Builtin.lenOf, Builtin.firstCells]
  · simp [Builtin.append_, run_underlying ht, sizeOf, typeInfo, hi, Builtin.lenOf, Builtin.firstCells, hnc, storeCells]
theorem run_app {P : Program} (w : World) (base : Nat) (t ty e : TypeId) (i : TypeInfo) (z : Value) (bytes : Nat) (ht : P.underlying t = some (.slice e)) (hi : P.info? e = some i) (hz : i.zero = some z)
    (hsize : i.size = 1) (hby : i.bytes = bytes) (hzs : z.cells.size = 1) (v : Value) (n : Nat) (xs : List Value) (hown : w.ownsRow base e 1 v n xs)
    (A : Option Addr) (c : Nat) (news : List Value) (hr : SlAt w A news) (h1 : ∀ u ∈ news, u.oneCell' = true) (h63 : n + news.length ≤ maxLen) (hbytes : (n + news.length) * bytes ≤ 140737488355328) (hbase : base ≤ w.heap.size) :
    ∃ v' w', (Builtin.append_ #[t, t] ty #[v, .slice A news.length c]).run P w = .ok v' w' ∧ w'.ownsRow base e 1 v' (n + news.length) (xs ++ news) ∧ w.grownBy w' v.ownBlock ∧ (v'.ownBlock = v.ownBlock ∨ v'.ownBlock = some w.heap.size) := by
  rcases A with _ | ad
  · have hn : news = [] := by
      rcases Nat.eq_zero_or_pos news.length with h0 | h0
      · exact List.eq_nil_of_length_eq_zero h0
      · obtain ⟨ad, h, _⟩ := hr h0
        cases h
    subst hn
    exact ⟨v, w, run_app_nil w base t ty e i ht hi v n xs hown c, by simpa using hown, World.grownBy.refl w _, .inl rfl⟩
  · have hcells : ∀ j u, news[j]? = some u → w.cell? (ad.add j) = some u := by
      intro j u hu
      have h0 : 0 < news.length := by
        rcases Nat.eq_zero_or_pos news.length with h0 | h0
        · rw [List.eq_nil_of_length_eq_zero h0] at hu; simp at hu
        · exact h0
      obtain ⟨ad', h, _, hc⟩ := hr h0
      injection h with h
      subst h
      exact hc j u hu
    obtain ⟨v', w', hrun, h2, h3, _, h5⟩ := run_append_own_at (P := P) w base t ty e i z 1 bytes ht hi hz hsize hby hzs (by decide) v n xs hown ad news.length c news (by simp) hcells h1 h63 hbytes hbase
    exact ⟨v', w', hrun, h2, h3, h5⟩
theorem grown_below {w w' : World} {base : Nat} {E : TypeId} {v : Value} {n : Nat} {xs : List Value} (h : w.ownsRow base E 1 v n xs) (hb : base ≤ w.heap.size) (k : w.grownBy w' v.ownBlock) : Below base w w' :=
  (Below.refl base w).grown k hb (fun j hj => (h.lt j hj).1)
theorem within_grown {w w' : World} (k : Within w w') : w.grownBy w' none := ⟨k.os, k.tape, k.output, k.size, fun i hi _ => k.block i hi⟩
theorem Tryz.infoF64 : (Tryz.prog.info? 29).map (fun i => (i.zero, i.size, i.bytes)) = some (some (.float .f64 0), 1, 8) := by kernel_rfl
def OwnF (w : World) (base : Nat) (v : Value) (l : List Nat) : Prop := w.ownsRow base 29 1 v l.length (f64v l)
theorem run_app_f64 (w : World) (base : Nat) (v : Value) (l m : List Nat) (hown : OwnF w base v l) (A : Option Addr) (c : Nat) (hr : SlAt w A (f64v m)) (hl : (l.length + m.length) * 8 ≤ 140737488355328) (hbase : base ≤ w.heap.size) :
    ∃ v' w', (Builtin.append_ #[24, 24] 24 #[v, .slice A m.length c]).run Tryz.prog w = .ok v' w' ∧ OwnF w' base v' (l ++ m) ∧ Below base w w' := by
  obtain ⟨i0, hi0, hz0, hz1, hz2⟩ := info_parts Tryz.infoF64
  obtain ⟨v', w', h1, h2, h3, _⟩ := run_app (P := Tryz.prog) w base 24 24 29 i0 (.float .f64 0) 8 (by kernel_rfl) hi0 hz0 hz1 hz2 rfl v l.length (f64v l) hown A c (f64v m) hr (f64v_one m) (by rw [f64v_len]; unfold maxLen; omega) (by rw [f64v_len]; omega) hbase
  rw [f64v_len] at h1 h2
  refine ⟨v', w', h1, ?_, grown_below hown hbase h3⟩
  unfold OwnF f64v
  rw [List.length_append, List.map_append]; exact h2
theorem OwnF.form {w : World} {base : Nat} {v : Value} {l : List Nat} (h : OwnF w base v l) : ∃ A c, v = .slice A l.length c ∧ l.length ≤ c ∧ SlAt w A (f64v l) ∧ (∀ ad, A = some ad → base ≤ ad.block) := owns_form h
theorem OwnF.of {w w' : World} {base : Nat} {v : Value} {l : List Nat} (h : OwnF w base v l) (k : Within w w') : OwnF w' base v l := h.kept (within_grown k) (by cases hv : v.ownBlock <;> simp)
theorem OwnF.nil_ (w : World) (base : Nat) : OwnF w base (.slice none 0 0) [] := World.ownsRow_nil _ _ _ _
theorem wpList_append_run {P : Program} {w : World} {ops : Array Oper} {rest : List Oper} {o : Oper} {a : Act} {Q : Exit → Act → World → Prop} (hgd : o.guard = none) (s x : Operand) (t : TypeId)
    (ho : o.op = .call { callee := .builtin .append, args := #[s, x], argTypes := #[t, t] }) (vs vx : Value) (hs : a.eval s = vs) (hx : a.eval x = vx) {v' : Value} {w' : World}
    (hrun : (Builtin.append_ #[t, t] o.type #[vs, vx]).run P w = .ok v' w') (h : wpList P ops Q rest (a.put o.dst v') w') : wpList P ops Q (o :: rest) a w :=
  wpList_plain hgd fun K hK => by
    unfold Oper.wp execOp
    simp only [ho, resolve, invoke, builtin, Sem.run_bind, Sem.run_pure, Result.andThen_ok, List.map_toArray, List.map_cons, List.map_nil, hs, hx, hrun]
    exact hK _ _ h
theorem SlAt.one (w : World) (u : Value) (E : TypeId) : SlAt (w.alloc (.cells #[u] E)) (some ⟨w.heap.size, 0, none⟩) [u] := fun _ => by
  refine ⟨_, rfl, by simp, fun j v hv => ?_⟩
  cases j with
  | zero =>
    simp at hv
    subst hv
    rw [add_nought, World.cell?_alloc_at _ _ _ _ rfl]; rfl
  | succ j => simp at hv
theorem run_app_float (w : World) (base : Nat) (v : Value) (l : List Nat) (x : Nat) (hown : OwnF w base v l) (hl : (l.length + 1) * 8 ≤ 140737488355328) (hbase : base ≤ w.heap.size) :
    ∃ v' w', (Builtin.append_ #[24, 24] 24 #[v, .slice (some ⟨w.heap.size, 0, none⟩) 1 1]).run Tryz.prog (w.alloc (.cells #[.float .f64 x] 29)) = .ok v' w' ∧ OwnF w' base v' (l ++ [x]) ∧ Below base w w' := by
  obtain ⟨v', w', h1, h2, h3⟩ := run_app_f64 (w.alloc (.cells #[.float .f64 x] 29)) base v l [x] (hown.of ((Within.refl w).alloc _)) (some ⟨w.heap.size, 0, none⟩) 1 (SlAt.one w _ _) hl (by simp; omega)
  exact ⟨v', w', h1, h2, ((Below.refl base w).alloc hbase _).trans h3⟩
theorem owns_less {w : World} {base base' : Nat} {E : TypeId} {v : Value} {n : Nat} {xs : List Value} (h : w.ownsRow base E 1 v n xs) (k : base' ≤ base) : w.ownsRow base' E 1 v n xs := by
  refine ⟨h.1, ?_⟩
  rcases h.2 with h2 | ⟨g, cap, cur, h1, hb, h3⟩
  · exact .inl h2
  · exact .inr ⟨g, cap, cur, h1, Nat.le_trans k hb, h3⟩
theorem OwnF.less {w : World} {base base' : Nat} {v : Value} {l : List Nat} (h : OwnF w base v l) (k : base' ≤ base) : OwnF w base' v l := owns_less h k
theorem OwnF.set {w : World} {base : Nat} {v : Value} {l : List Nat} (h : OwnF w base v l) {p : Addr} (hp : p.block < base) (u : Value) : OwnF (w.setCell p u) base v l := ownsRow_setCell_below h hp u
theorem classD_range (a : Nat) : 1 ≤ classD a ∧ classD a ≤ 5 := by
  unfold classD classOf; split <;> (try split) <;> (try split) <;> (try split) <;> omega
def finD (x : Nat) : Bool := decide (2 < classD x)
theorem take_snoc_getD {l : List Nat} {k : Nat} (h : k < l.length) : l.take (k + 1) = l.take k ++ [l.getD k 0] := by
  rw [List.take_add_one, List.getElem?_eq_getElem h]; simp [List.getD, List.getElem?_eq_getElem h]
def Words64 (l : List Nat) : Prop := ∀ x ∈ l, x < 18446744073709551616
theorem Words64.at {l : List Nat} (h : Words64 l) {k : Nat} (hk : k < l.length) : l.getD k 0 < 18446744073709551616 := by
  rw [List.getD, List.getElem?_eq_getElem hk]; exact h _ (List.getElem_mem hk)
theorem all_snoc {p : Nat → Bool} {l : List Nat} {k : Nat} (h : k < l.length) : (l.take (k + 1)).all p = ((l.take k).all p && p (l.getD k 0)) := by
  rw [take_snoc_getD h, List.all_append]; simp
theorem all_false {p : Nat → Bool} {l : List Nat} {k : Nat} (h : k < l.length) (hp : p (l.getD k 0) = false) : l.all p = false := by
  rw [List.all_eq_false]
  refine ⟨l.getD k 0, ?_, by rw [hp]; decide⟩
  rw [List.getD, List.getElem?_eq_getElem h]; exact List.getElem_mem h
theorem class_yes {x : Nat} (h : finD x = true) : ((classD x : Int) == 1) = false ∧ ((classD x : Int) == 2) = false := by
  have : 2 < classD x := of_decide_eq_true h
  exact ⟨beq_eq_false_iff_ne.2 (by omega), beq_eq_false_iff_ne.2 (by omega)⟩
theorem class_no {x : Nat} (h : finD x = false) : classD x = 1 ∨ classD x = 2 := by
  have h1 : ¬ 2 < classD x := of_decide_eq_false h
  have := classD_range x
  omega
set_option maxRecDepth 100000 in
set_option maxHeartbeats 600000 in
theorem Finite_any (A : Option Addr) (c : Nat) (l : List Nat) (hw : Words64 l) (hl : l.length ≤ 1152921504606846976) (w : World) (hr : SlAt w A (f64v l)) : Calls Tryz.prog 73 #[.slice A l.length c] w fun e w' => e = .returned (.bool (l.all finD)) ∧ Within w w' := by
  have HW := Lib.hid hw; have HR := Lib.hid hr; clear hw hr
  go_enter Tryz.func73, Tryz.ntmps73
  go_wp2
  go_loopw [8] (fun iv wr => ∃ k : Nat, k ≤ l.length ∧ iv = .int .i64 (k : Int) ∧ (l.take k).all finD = true ∧ Within w wr) (fun iv _ => l.length - (intOf iv).toNat)
  case atStart => exact ⟨0, Nat.zero_le _, rfl, rfl, Within.refl _⟩
  case round =>
    obtain ⟨k, hk, rfl, hall, hin⟩ := hrel
    have HA := Lib.hid hall; clear hall
    by_cases hlt : k < l.length
    · obtain ⟨ad, rfl, hblk, hc⟩ := (HR.out.of hin).at hlt
      obtain ⟨x, hx⟩ : ∃ x, x = l.getD k 0 := ⟨_, rfl⟩
      have hx2 : x < 18446744073709551616 := by rw [hx]; exact HW.out.at hlt
      rw [← hx] at hc
      have HX := Lib.hid hx; have HX2 := Lib.hid hx2; clear hx hx2
      by_cases hf : finD x = true
      · have hnext : (l.take (k + 1)).all finD = true := by rw [all_snoc hlt, HA.out, ← HX.out, hf]; rfl
        have HN := Lib.hid hnext; clear hnext
        obtain ⟨g1, g2⟩ := class_yes hf
        clear hf
        go_wp2_with fail
        refine (Class_D x HX2.out _).mono ?_; rintro e1 w1 ⟨rfl, hb1⟩
        go_wp2
        go_roundw
        case rel => exact ⟨k + 1, hlt, by go_num, HN.out, (by repeat (first | with_reducible exact Within.refl _ | with_reducible assumption | with_reducible refine Within.alloc ?_ _ | with_reducible refine Within.drew ?_ | with_reducible refine Within.setCell ?_ (by first | (simp; done) | (simp; omega)) _ | with_reducible refine Within.trans ?_ (by assumption)))⟩
        case measure => simp [intOf]; omega
      · have hno : l.all finD = false := all_false hlt (by rw [← HX.out]; simpa using hf)
        have HNO := Lib.hid hno; clear hno
        have hc1 := class_no (by simpa using hf : finD x = false)
        have CL := Lib.hid (fun w => Class_D x HX2.out w)
        generalize classD x = cx at *
        clear hf
        rcases hc1 with rfl | rfl
        · go_wp2_with fail
          refine (CL.out _).mono ?_; rintro e1 w1 ⟨rfl, hb1⟩
          go_wp2
          go_ret
          exact ⟨ret_bool HNO.out.symm, (by repeat (first | with_reducible exact Within.refl _ | with_reducible assumption | with_reducible refine Within.alloc ?_ _ | with_reducible refine Within.drew ?_ | with_reducible refine Within.setCell ?_ (by first | (simp; done) | (simp; omega)) _ | with_reducible refine Within.trans ?_ (by assumption)))⟩
        go_wp2_with fail
        refine (CL.out _).mono ?_; rintro e1 w1 ⟨rfl, hb1⟩
        go_wp2
        go_ret
        exact ⟨ret_bool HNO.out.symm, (by repeat (first | with_reducible exact Within.refl _ | with_reducible assumption | with_reducible refine Within.alloc ?_ _ | with_reducible refine Within.drew ?_ | with_reducible refine Within.setCell ?_ (by first | (simp; done) | (simp; omega)) _ | with_reducible refine Within.trans ?_ (by assumption)))⟩
    · obtain rfl : k = l.length := by omega
      go_wp2
      go_ret
      exact ⟨ret_bool (by rw [← HA.out, List.take_of_length_le (Nat.le_refl _)]), hin⟩
end Go.Proofs.YtjmaggfddinbkaaGreatDoor
end

section
namespace Go.Proofs.YtjmaggfddinbkaaGreatDoor.P64
open Go.RowKit
theorem ctz_top (n : Nat) (h : n < 18446744073709551616) : Lib.ctz 64 n ≤ 64 := by
  by_cases h0 : n = 0
  · subst h0; decide
  · obtain ⟨_, _, _, h1⟩ := odd_split h0 h
    omega
theorem pExpD_range (b : Nat) : -1074 ≤ pExpD b ∧ pExpD b ≤ 1100 := by
  unfold pExpD
  have h1 := expD_lt b
  have h2 := ctz_top (mantD b) (by have := mantD_lt b; omega)
  split
  · omega
  · unfold lowD; split <;> omega
theorem pMantD_lt (b : Nat) : pMantD b < 18446744073709551616 := by
  unfold pMantD
  have h := mantD_lt b
  split
  · decide
  · exact Nat.lt_of_le_of_lt (Nat.div_le_self _ _) (by omega)
def wholeI (b : Nat) : Int := sgv (pNegD b) (pMantD b) * 2 ^ (pExpD b + 1074).toNat
def NewI (W : World) (v : Int) (e : Ending) (w' : World) : Prop := ∃ g, e = .returned (.pointer (some ⟨g, 0, none⟩)) ∧ IntB w' g v ∧ W.heap.size ≤ g ∧ Within W w'
theorem dg_len_of {n e k : Nat} (h : n < 2 ^ e) (he : e ≤ 64 * k) : (dg n).length ≤ k :=
  dg_len_le (Nat.lt_of_lt_of_le h (by rw [show (18446744073709551616 : Nat) = 2 ^ 64 from rfl, ← Nat.pow_mul]; exact Nat.pow_le_pow_right (by decide) he))
theorem wholeI_lt (b : Nat) : (wholeI b).natAbs < 2 ^ (64 + (pExpD b + 1074).toNat) := by
  unfold wholeI
  rw [Int.natAbs_mul, sgv_abs]
  have h1 := pMantD_lt b
  have e : ((2 : Int) ^ (pExpD b + 1074).toNat).natAbs = 2 ^ (pExpD b + 1074).toNat := by rw [Int.natAbs_pow]; rfl
  rw [e, Nat.pow_add]
  exact Nat.mul_lt_mul_of_pos_right h1 (Nat.two_pow_pos _)
theorem lim36 {k : Nat} (h : k ≤ 2174) : 64 + k ≤ 64 * 36 := by omega
theorem wholeI_len (b : Nat) : (dg (wholeI b).natAbs).length ≤ 36 :=
  dg_len_of (wholeI_lt b) (lim36 (by have := (pExpD_range b).2; omega))
set_option maxRecDepth 100000 in
set_option maxHeartbeats 1000000 in
theorem Ewhole0 (x : Nat) (neg : Bool) (m : Nat) (p : Int) (k : Nat) (er : Value) (hm : m < 18446744073709551616) (hk : p + 1074 = (k : Int)) (hk2 : k ≤ 2200) (w : World)
    (CP : Hid (Calls Tryz.prog 117 #[.float .f64 x] w fun e w' => e = .returned (.tuple #[.agg #[.bool neg, .int .u64 (m : Int), .int .i64 p], er]) ∧ Within w w')) :
    Calls Tryz.prog 80 #[.float .f64 x] w (NewI w (sgv neg m * 2 ^ k)) := by
  have HM := Lib.hid hm; clear hm
  have HK := Lib.hid hk2
  have gk : IntKind.i64.wrap (p + 1074) = (k : Int) := by rw [hk, IntWalk.i64_in _ (by omega)]
  have gk2 : IntKind.u64.wrap (k : Int) = (k : Int) := by rw [IntKind.wrap_u64]; omega
  clear hk hk2
  go_enter Tryz.func80, Tryz.ntmps80
  go_wp2_with fail
  refine CP.out.mono ?_; rintro e1 w1 ⟨rfl, hb1⟩
  have HT : IntTy ((w1.alloc (.cells #[.bool neg, .int .u64 (m : Int), .int .i64 p] 97)).alloc (.cells #[.bool false, .slice none 0 0] 121)) (w1.heap.size + 1) := by
    have := (IntB.made (w1.alloc (.cells #[.bool neg, .int .u64 (m : Int), .int .i64 p] 97))).ty
    simpa using this
  go_wp2_with fail
  have k0 : ((w1.alloc (.cells #[.bool neg, .int .u64 (m : Int), .int .i64 p] 97)).alloc (.cells #[.bool false, .slice none 0 0] 121)).cell? ⟨w1.heap.size, 0, none⟩ = some (.bool neg) := by simp [go_sem]
  have k2 : ((w1.alloc (.cells #[.bool neg, .int .u64 (m : Int), .int .i64 p] 97)).alloc (.cells #[.bool false, .slice none 0 0] 121)).cell? ⟨w1.heap.size, 2, none⟩ = some (.int .i64 p) := by simp [go_sem]
  have HW2 : Within w ((w1.alloc (.cells #[.bool neg, .int .u64 (m : Int), .int .i64 p] 97)).alloc (.cells #[.bool false, .slice none 0 0] 121)) := (hb1.alloc _).alloc _
  obtain ⟨W2, hW2⟩ : ∃ W2, W2 = (w1.alloc (.cells #[.bool neg, .int .u64 (m : Int), .int .i64 p] 97)).alloc (.cells #[.bool false, .slice none 0 0] 121) := ⟨_, rfl⟩
  have hsz : W2.heap.size = w1.heap.size + 2 := by rw [hW2]; simp
  have hw1 := hb1.size
  rw [← hW2] at HT k0 k2 HW2 ⊢
  clear hW2
  have HS := Lib.hid hsz; have HL := Lib.hid hw1
  clear hsz hw1
  refine (PsetUint64 (w1.heap.size + 1) m HM.out W2 HT).mono ?_; rintro e2 w2 ⟨rfl, hI2, hG2⟩
  have q0 := hG2.cell k0 (by simp)
  have q2 := hG2.cell k2 (by simp)
  have hlen : (dg (m : Int).natAbs).length ≤ 1 := by
    rw [Int.natAbs_natCast]; exact dg_len_le (by have := HM.out; simpa using this)
  have HLN := Lib.hid hlen; clear hlen
  cases neg
  · go_wp2_with fail
    refine (Plsh (w1.heap.size + 1) (w1.heap.size + 1) k (m : Int) (Nat.le_trans HLN.out (by decide)) (Nat.le_trans HK.out (by decide)) w2 hI2.ty hI2).mono ?_; rintro e3 w3 ⟨rfl, hI3, hG3⟩
    go_wp2
    go_ret
    exact ⟨_, rfl, hI3, by have := HL.out; omega, Within.grown HW2 (grown_trans hG2 hG3) (by have := HL.out; omega)⟩
  · go_wp2_with fail
    refine (Pneg (w1.heap.size + 1) (w1.heap.size + 1) (m : Int) (Nat.le_trans HLN.out (by decide)) w2 hI2.ty hI2).mono ?_; rintro e3 w3 ⟨rfl, hI3, hG3⟩
    have r2 := hG3.cell q2 (by simp)
    go_wp2_with fail
    refine (Plsh (w1.heap.size + 1) (w1.heap.size + 1) k (-(m : Int)) (by rw [Int.natAbs_neg]; exact Nat.le_trans HLN.out (by decide)) (Nat.le_trans HK.out (by decide)) w3 hI3.ty hI3).mono ?_; rintro e4 w4 ⟨rfl, hI4, hG4⟩
    go_wp2
    go_ret
    exact ⟨_, rfl, hI4, by have := HL.out; omega, Within.grown HW2 (grown_trans (grown_trans hG2 hG3) hG4) (by have := HL.out; omega)⟩
theorem Ewhole (b : Nat) (hb : b < 18446744073709551616) (w : World) (hT : Tab w) : Calls Tryz.prog 80 #[.float .f64 b] w (NewI w (wholeI b)) := by
  have := pExpD_range b
  exact Ewhole0 b (pNegD b) (pMantD b) (pExpD b) (pExpD b + 1074).toNat (.int .i64 (pErrD b)) (pMantD_lt b) (by omega) (by omega) w (Lib.hid (Parts_D b hb w hT))
end Go.Proofs.YtjmaggfddinbkaaGreatDoor.P64
end

section
namespace Go.Proofs.YtjmaggfddinbkaaGreatDoor.P64
open Go.RowKit
theorem mul_len {a b : Int} {n m : Nat} (ha : (dg a.natAbs).length ≤ n) (hb : (dg b.natAbs).length ≤ m) : (dg (a * b).natAbs).length ≤ n + m := by
  rw [Int.natAbs_mul]; exact dg_mul_len ha hb
set_option maxRecDepth 100000 in
set_option maxHeartbeats 1000000 in
theorem Ecross (ga gb gc gd : Nat) (a b c d : Int) (w : World) (ha : IntB w ga a) (hb : IntB w gb b) (hc : IntB w gc c) (hd : IntB w gd d)
    (la : (dg a.natAbs).length ≤ 40) (lb : (dg b.natAbs).length ≤ 40) (lc : (dg c.natAbs).length ≤ 40) (ld : (dg d.natAbs).length ≤ 40) :
    Calls Tryz.prog 79 #[.pointer (some ⟨ga, 0, none⟩), .pointer (some ⟨gb, 0, none⟩), .pointer (some ⟨gc, 0, none⟩), .pointer (some ⟨gd, 0, none⟩)] w fun e w' => e = .returned (.int .i64 (cmpI (a * d) (b * c))) ∧ Within w w' := by
  have HA := Lib.hid ha; have HB := Lib.hid hb; have HC := Lib.hid hc; have HD := Lib.hid hd; clear ha hb hc hd
  have LA := Lib.hid (And.intro (And.intro la lb) (And.intro lc ld)); clear la lb lc ld
  have HT := Lib.hid (IntB.made w).ty
  have b1 : Within w (w.alloc (.cells #[.bool false, .slice none 0 0] 121)) := (Within.refl w).alloc _
  go_enter Tryz.func79, Tryz.ntmps79
  go_wp2_with fail
  refine (Pmul w.heap.size ga gd a d (Nat.le_trans LA.out.1.1 (by decide)) (Nat.le_trans LA.out.2.2 (by decide)) _ HT.out (HA.out.of b1) (HD.out.of b1)).mono ?_; rintro e1 w1 ⟨rfl, hI1, hG1⟩
  have hW1 : Within w w1 := Within.grown b1 hG1 (Nat.le_refl _)
  have HT2 := Lib.hid (IntB.made w1).ty
  have b2 : Within w1 (w1.alloc (.cells #[.bool false, .slice none 0 0] 121)) := (Within.refl w1).alloc _
  go_wp2_with fail
  refine (Pmul w1.heap.size gb gc b c (Nat.le_trans LA.out.1.2 (by decide)) (Nat.le_trans LA.out.2.1 (by decide)) _ HT2.out (HB.out.of (hW1.trans b2)) (HC.out.of (hW1.trans b2))).mono ?_; rintro e2 w2 ⟨rfl, hI2, hG2⟩
  have hW2 : Within w1 w2 := Within.grown b2 hG2 (Nat.le_refl _)
  go_wp2_with fail
  refine (Pcmp w.heap.size w1.heap.size (a * d) (b * c) (Nat.le_trans (mul_len LA.out.1.1 LA.out.2.2) (by decide)) (Nat.le_trans (mul_len LA.out.1.2 LA.out.2.1) (by decide)) w2 (hI1.of hW2) hI2).mono ?_; rintro e3 w3 ⟨rfl, hb3⟩
  go_wp2
  go_ret
  exact ⟨rfl, (hW1.trans hW2).trans hb3⟩
theorem slAt_made (w : World) (l : List Nat) (C : Array Value) (t : TypeId) (hC : C = (f64v l).toArray) : SlAt (w.alloc (.cells C t)) (some ⟨w.heap.size, 0, none⟩) (f64v l) := by
  subst hC
  intro _
  refine ⟨_, rfl, by simp, fun j u hu => ?_⟩
  rw [add_zero_off]
  have h1 := heap_alloc_new w (.cells (f64v l).toArray t)
  unfold World.cell?
  rw [h1]
  simpa using hu
def detI (a b c d : Nat) : Int := cmpI (wholeI a * wholeI d) (wholeI b * wholeI c)
set_option maxRecDepth 100000 in
set_option maxHeartbeats 1000000 in
theorem Edet (a b c d : Nat) (ha : a < 18446744073709551616) (hb : b < 18446744073709551616) (hc : c < 18446744073709551616) (hd : d < 18446744073709551616) (w : World) (hT : Tab w) :
    Calls Tryz.prog 22 #[.float .f64 a, .float .f64 b, .float .f64 c, .float .f64 d] w fun e w' => e = .returned (.tuple #[.int .i64 (if [a, b, c, d].all finD then detI a b c d else 0), .int .i64 (if [a, b, c, d].all finD then 0 else 4)]) ∧ Within w w' := by
  have HA := Lib.hid ha; have HB := Lib.hid hb; have HC := Lib.hid hc; have HD := Lib.hid hd; have HT := Lib.hid hT; clear ha hb hc hd hT
  have CF := Lib.hid (fun (w' : World) hr => Finite_any (some ⟨w.heap.size, 0, none⟩) 4 [a, b, c, d] (by intro x hx; have := HA.out; have := HB.out; have := HC.out; have := HD.out; simp at hx; omega) (by simp) w' hr)
  have HS := Lib.hid (slAt_made w [a, b, c, d] _ 29 rfl)
  obtain ⟨al, hal⟩ : ∃ al, al = [a, b, c, d].all finD := ⟨_, rfl⟩
  rw [← hal] at CF ⊢
  clear hal
  have b1 : ∀ C, Within w (w.alloc (.cells C 29)) := fun C => (Within.refl w).alloc _
  cases al
  · go_enter Tryz.func22, Tryz.ntmps22
    go_wp2_with fail
    refine (CF.out _ HS.out).mono ?_; rintro e1 w1 ⟨rfl, hb1⟩
    go_wp2
    go_ret2
    exact ⟨rfl, (b1 _).trans hb1⟩
  · go_enter Tryz.func22, Tryz.ntmps22
    go_wp2_with fail
    refine (CF.out _ HS.out).mono ?_; rintro e1 w1 ⟨rfl, hb1'⟩
    have hb1 := (b1 _).trans hb1'
    clear hb1'
    go_wp2_with fail
    refine (Ewhole a HA.out w1 (HT.out.of hb1)).mono ?_; rintro e1 w2 ⟨g1, rfl, hI1, hg1, hb2⟩
    go_wp2_with fail
    refine (Ewhole b HB.out w2 (HT.out.of (hb1.trans hb2))).mono ?_; rintro e1 w3 ⟨g2, rfl, hI2, hg2, hb3⟩
    go_wp2_with fail
    refine (Ewhole c HC.out w3 (HT.out.of ((hb1.trans hb2).trans hb3))).mono ?_; rintro e1 w4 ⟨g3, rfl, hI3, hg3, hb4⟩
    go_wp2_with fail
    refine (Ewhole d HD.out w4 (HT.out.of (((hb1.trans hb2).trans hb3).trans hb4))).mono ?_; rintro e1 w5 ⟨g4, rfl, hI4, hg4, hb5⟩
    go_wp2_with fail
    refine (Ecross g1 g2 g3 g4 _ _ _ _ w5 (hI1.of ((hb3.trans hb4).trans hb5)) (hI2.of (hb4.trans hb5)) (hI3.of hb5) hI4 (Nat.le_trans (wholeI_len a) (by decide)) (Nat.le_trans (wholeI_len b) (by decide)) (Nat.le_trans (wholeI_len c) (by decide)) (Nat.le_trans (wholeI_len d) (by decide))).mono ?_; rintro e1 w6 ⟨rfl, hb6⟩
    go_wp2
    go_ret2
    exact ⟨rfl, ((((hb1.trans hb2).trans hb3).trans hb4).trans hb5).trans hb6⟩
end Go.Proofs.YtjmaggfddinbkaaGreatDoor.P64
end

section
namespace Go.Proofs.YtjmaggfddinbkaaGreatDoor
def Fi (x : Nat) : Prop := x < 18446744073709551616 ∧ x % 9223372036854775808 < 9218868437227405312
def rn (z : Int) : Int := if z < 0 then -((Fp.mag Ieee.double (Fp.grid Ieee.double z.natAbs 0) : Nat) : Int) else ((Fp.mag Ieee.double (Fp.grid Ieee.double z.natAbs 0) : Nat) : Int)
theorem rn_zero : rn 0 = 0 := by unfold rn; rw [if_neg (by decide), Int.natAbs_zero, Fp.grid_zero, Fp.mag_zero]; rfl
theorem rn_neg (z : Int) : rn (-z) = -rn z := by
  by_cases h0 : z = 0
  · subst h0; rw [Int.neg_zero, rn_zero]; rfl
  · unfold rn
    rw [Int.natAbs_neg]
    by_cases h : z < 0
    · rw [if_neg (by omega), if_pos h, Int.neg_neg]
    · rw [if_pos (by omega), if_neg h]
theorem Fi.rg {x : Nat} (h : Fi x) : Fp.rg Ieee.double x < Ieee.double.infRung := by rw [Fp.rg64, Fp.dI]; exact h.2
theorem Fi.le {x : Nat} (h : Fi x) : x % 9223372036854775808 ≤ 9218868437227405312 := Nat.le_of_lt h.2
/-! the steps of a sum -/
end Go.Proofs.YtjmaggfddinbkaaGreatDoor
end

section
namespace Go.Proofs.YtjmaggfddinbkaaGreatDoor
open Go.RowKit
def fv (x : Nat) : Option Nat := if 9218868437227405312 < x % 9223372036854775808 then none else some x
def fop (op : BinOp) (a b : Option Nat) : Option Nat := a.bind fun x => b.bind fun y => floatBits op .f64 x y
def arF (op : BinOp) (x y : Nat) (w : World) : Nat := match floatBits op .f64 x y with | some r => r | none => (Question.nanBits .f64 x y).cut (w.tape w.drawn (.nanBits .f64 x y))
def arW (op : BinOp) (x y : Nat) (w : World) : World := match floatBits op .f64 x y with | some _ => w | none => w.drew
theorem run_nan (op : BinOp) (t : TypeId) (k : FloatKind) (x y : Nat) (P : Program) (w : World) (ho : op = .sub ∨ op = .add ∨ op = .mul ∨ op = .quo) (h : floatBits op k x y = none) :
    (binOp op t (.float k x) (.float k y)).run P w = .ok (.float k ((Question.nanBits k x y).cut (w.tape w.drawn (.nanBits k x y)))) w.drew := by
  unfold floatBits at h
  rcases ho with rfl | rfl | rfl | rfl <;> simp only at h <;> simp [binOp, Op.floatArith, h, Question.forced]
theorem run_ar (op : BinOp) (ho : op = .sub ∨ op = .add ∨ op = .mul ∨ op = .quo) (t : TypeId) (x y : Nat) (P : Program) (w : World) :
    (binOp op t (.float .f64 x) (.float .f64 y)).run P w = .ok (.float .f64 (arF op x y w)) (arW op x y w) := by
  unfold arF arW
  cases h : floatBits op .f64 x y with
  | some r => exact run_float_arith (P := P) w op t .f64 x y r h
  | none => exact run_nan op t .f64 x y P w ho h
theorem arW_within {W w : World} (h : Within W w) (op : BinOp) (x y : Nat) : Within W (arW op x y w) := by
  unfold arW
  split
  · exact h
  · exact h.drew
theorem cut_nan (x y t : Nat) : 9218868437227405312 < (Question.nanBits .f64 x y).cut t % 9223372036854775808 ∧ (Question.nanBits .f64 x y).cut t < 18446744073709551616 := by
  have e : (Question.nanBits .f64 x y).cut t = (t % 2) * 2 ^ 63 + 0x7ff0000000000000 + 1 + (t / 2) % (2 ^ 52 - 1) := rfl
  rw [e]
  have h1 : t % 2 < 2 := Nat.mod_lt _ (by decide)
  have h2 : (t / 2) % (2 ^ 52 - 1) < 4503599627370495 := Nat.mod_lt _ (by decide)
  have e63 : (2 : Nat) ^ 63 = 9223372036854775808 := by decide
  rw [e63]
  generalize t % 2 = a at *
  generalize (t / 2) % (2 ^ 52 - 1) = b at *
  omega
/-! what is written is no NaN, unless it is one -/
theorem write_sane (d : Ieee.Datum) (h : d.isNaN = false) : Ieee.double.write d < 18446744073709551616 ∧ Ieee.double.write d % 9223372036854775808 ≤ 9218868437227405312 := by
  have key : ∀ (b : Bool) (r : Nat), r ≤ 9218868437227405312 → Ieee.double.word b r < 18446744073709551616 ∧ Ieee.double.word b r % 9223372036854775808 ≤ 9218868437227405312 := by
    intro b r hr
    unfold Ieee.Format.word
    rw [Fp.dS]
    split <;> omega
  cases d with
  | nan s t => simp [Ieee.Datum.isNaN] at h
  | infinity s => exact key s _ (by rw [Fp.dI]; exact Nat.le_refl _)
  | number s m e =>
    show Ieee.double.nearest s m e < _ ∧ Ieee.double.nearest s m e % _ ≤ _
    unfold Ieee.Format.nearest
    split
    · exact key s 0 (by decide)
    · exact key s _ (by rw [Fp.dI]; exact Nat.min_le_right _ _)
theorem sum_sane {d e r : Ieee.Datum} (h : d.sum e = some r) : r.isNaN = false := by
  cases d <;> cases e <;> simp only [Ieee.Datum.sum] at h <;> first | (cases h; done) | skip
  all_goals first | (split at h <;> first | (cases h; done) | (obtain rfl := Option.some.inj h; rfl)) | (obtain rfl := Option.some.inj h; rfl)
theorem prod_sane {d e r : Ieee.Datum} (h : d.product e = some r) : r.isNaN = false := by
  cases d <;> cases e <;> simp only [Ieee.Datum.product] at h <;> first | (cases h; done) | skip
  all_goals first | (split at h <;> first | (cases h; done) | (obtain rfl := Option.some.inj h; rfl)) | (obtain rfl := Option.some.inj h; rfl)
theorem quot_sane {k : Nat} {d e r : Ieee.Datum} (h : d.quotient k e = some r) : r.isNaN = false := by
  cases d <;> cases e <;> simp only [Ieee.Datum.quotient] at h <;> first | (cases h; done) | skip
  all_goals first | (split at h <;> first | (split at h <;> first | (cases h; done) | (obtain rfl := Option.some.inj h; rfl)) | (cases h; done) | (obtain rfl := Option.some.inj h; rfl)) | (obtain rfl := Option.some.inj h; rfl)
theorem floatBits_sane {op : BinOp} {x y r : Nat} (h : floatBits op .f64 x y = some r) : r < 18446744073709551616 ∧ r % 9223372036854775808 ≤ 9218868437227405312 := by
  have key : ∀ o : Option Ieee.Datum, (∀ d, o = some d → d.isNaN = false) → o.map Ieee.double.write = some r → r < 18446744073709551616 ∧ r % 9223372036854775808 ≤ 9218868437227405312 := by
    intro o ho hr
    cases o with
    | none => cases hr
    | some d => obtain rfl := Option.some.inj hr; exact write_sane d (ho d rfl)
  unfold floatBits at h
  split at h
  · exact key _ (fun d hd => sum_sane hd) h
  · exact key _ (fun d hd => sum_sane hd) h
  · exact key _ (fun d hd => prod_sane hd) h
  · exact key _ (fun d hd => quot_sane hd) h
  · cases h
theorem read_nan {a : Nat} (h : 9218868437227405312 < a % 9223372036854775808) : ∃ s t, Ieee.double.read a = .nan s t := ⟨_, _, Fp.read_nan Ieee.double a (by rw [Fp.rg64, Fp.dI]; exact h) Fp.dBI⟩
theorem floatBits_nan {op : BinOp} {x y : Nat} (h : fv x = none ∨ fv y = none) : floatBits op .f64 x y = none := by
  have e : ∀ z, fv z = none → 9218868437227405312 < z % 9223372036854775808 := fun z hz => by
    unfold fv at hz
    split at hz
    · assumption
    · cases hz
  have k1 : ∀ s t d, (Ieee.Datum.nan s t).sum d = none := fun s t d => by cases d <;> rfl
  have k2 : ∀ s t d, Ieee.Datum.sum d (.nan s t) = none := fun s t d => by cases d <;> rfl
  have k3 : ∀ s t d, (Ieee.Datum.nan s t).product d = none := fun s t d => by cases d <;> rfl
  have k4 : ∀ s t d, Ieee.Datum.product d (.nan s t) = none := fun s t d => by cases d <;> rfl
  have k5 : ∀ k s t d, (Ieee.Datum.nan s t).quotient k d = none := fun k s t d => by cases d <;> rfl
  have k6 : ∀ k s t d, Ieee.Datum.quotient k d (.nan s t) = none := fun k s t d => by cases d <;> rfl
  rcases h with h | h <;> obtain ⟨s, t, hr⟩ := read_nan (e _ h)
  · unfold floatBits
    split
    · show (((Ieee.double.read x).sum _).map _) = none; rw [hr, k1]; rfl
    · show (((Ieee.double.read x).sum _).map _) = none; rw [hr, k1]; rfl
    · show (((Ieee.double.read x).product _).map _) = none; rw [hr, k3]; rfl
    · show (((Ieee.double.read x).quotient _ _).map _) = none; rw [hr, k5]; rfl
    · rfl
  · unfold floatBits
    split
    · show ((Ieee.Datum.sum _ (Ieee.double.read y)).map _) = none; rw [hr, k2]; rfl
    · show ((Ieee.Datum.sum _ (Ieee.double.read y).opposite).map _) = none; rw [hr, show (Ieee.Datum.nan s t).opposite = .nan (!s) t from rfl, k2]; rfl
    · show ((Ieee.Datum.product _ (Ieee.double.read y)).map _) = none; rw [hr, k4]; rfl
    · show ((Ieee.Datum.quotient _ _ (Ieee.double.read y)).map _) = none; rw [hr, k6]; rfl
    · rfl
theorem fv_ar (op : BinOp) (x y : Nat) (w : World) : fv (arF op x y w) = fop op (fv x) (fv y) ∧ arF op x y w < 18446744073709551616 := by
  have hn : ∀ t, fv ((Question.nanBits .f64 x y).cut t) = none := fun t => if_pos (cut_nan x y t).1
  unfold arF fop
  cases h : floatBits op .f64 x y with
  | none =>
    refine ⟨?_, (cut_nan x y _).2⟩
    rw [hn]
    cases h1 : fv x with
    | none => rfl
    | some x' =>
      cases h2 : fv y with
      | none => rfl
      | some y' =>
        have e1 : x' = x := by unfold fv at h1; split at h1; cases h1; exact (Option.some.inj h1).symm
        have e2 : y' = y := by unfold fv at h2; split at h2; cases h2; exact (Option.some.inj h2).symm
        subst e1 e2
        exact h.symm
  | some r =>
    obtain ⟨r1, r2⟩ := floatBits_sane h
    refine ⟨?_, r1⟩
    have hr : fv r = some r := if_neg (by omega)
    have h1 : fv x = some x := by
      cases h1 : fv x with
      | none => rw [floatBits_nan (.inl h1)] at h; cases h
      | some x' => unfold fv at h1; split at h1; cases h1; rw [Option.some.inj h1]
    have h2 : fv y = some y := by
      cases h2 : fv y with
      | none => rw [floatBits_nan (.inr h2)] at h; cases h
      | some y' => unfold fv at h2; split at h2; cases h2; rw [Option.some.inj h2]
    rw [hr, h1, h2]
    exact h.symm
end Go.Proofs.YtjmaggfddinbkaaGreatDoor
end

section
namespace Go.Proofs.YtjmaggfddinbkaaGreatDoor
open Go.RowKit
theorem c_nn {c : Nat} (h : c % 9223372036854775808 ≤ 9218868437227405312) : Fp.isNaN64 c = false := decide_eq_false (by omega)
theorem c_lt {x y : Nat} (hx : x % 9223372036854775808 ≤ 9218868437227405312) (hy : y % 9223372036854775808 ≤ 9218868437227405312) : (FloatKind.f64.format.order x y == some .lt) = decide (Fp.un Ieee.double x < Fp.un Ieee.double y) := by
  show (Ieee.double.order x y == some .lt) = _
  rw [Fp.lt64 x y (c_nn hx) (c_nn hy), ← Fp.key_double, ← Fp.key_double]
  exact decide_eq_decide.2 (Fp.un_lt_iff Ieee.double x y).symm
theorem c_gt {x y : Nat} (hx : x % 9223372036854775808 ≤ 9218868437227405312) (hy : y % 9223372036854775808 ≤ 9218868437227405312) : (FloatKind.f64.format.order x y == some .gt) = decide (Fp.un Ieee.double y < Fp.un Ieee.double x) := by
  show (Ieee.double.order x y == some .gt) = _
  rw [Fp.gt64 x y (c_nn hx) (c_nn hy), ← Fp.key_double, ← Fp.key_double]
  exact decide_eq_decide.2 (Fp.un_lt_iff Ieee.double y x).symm
theorem c_eq {x y : Nat} (hx : x % 9223372036854775808 ≤ 9218868437227405312) (hy : y % 9223372036854775808 ≤ 9218868437227405312) : (FloatKind.f64.format.order x y == some .eq) = decide (Fp.un Ieee.double x = Fp.un Ieee.double y) := by
  show (Ieee.double.order x y == some .eq) = _
  rw [Fp.eq64 x y (c_nn hx) (c_nn hy), ← Fp.key_double, ← Fp.key_double]
  exact decide_eq_decide.2 (Fp.un_eq_iff Ieee.double x y).symm
theorem c_ge {x y : Nat} (hx : x % 9223372036854775808 ≤ 9218868437227405312) (hy : y % 9223372036854775808 ≤ 9218868437227405312) : (FloatKind.f64.format.order x y == some .gt || FloatKind.f64.format.order x y == some .eq) = decide (Fp.un Ieee.double y ≤ Fp.un Ieee.double x) := by
  rw [c_gt hx hy, c_eq hx hy, Bool.eq_iff_iff, Bool.or_eq_true, decide_eq_true_iff, decide_eq_true_iff, decide_eq_true_iff]; omega
theorem c_le {x y : Nat} (hx : x % 9223372036854775808 ≤ 9218868437227405312) (hy : y % 9223372036854775808 ≤ 9218868437227405312) : (FloatKind.f64.format.order x y == some .lt || FloatKind.f64.format.order x y == some .eq) = decide (Fp.un Ieee.double x ≤ Fp.un Ieee.double y) := by
  rw [c_lt hx hy, c_eq hx hy, Bool.eq_iff_iff, Bool.or_eq_true, decide_eq_true_iff, decide_eq_true_iff, decide_eq_true_iff]; omega
theorem c_nan {x y : Nat} (h : 9218868437227405312 < x % 9223372036854775808 ∨ 9218868437227405312 < y % 9223372036854775808) (o : Ordering) : (FloatKind.f64.format.order x y == some o) = false := by
  show (Ieee.double.order x y == some o) = false
  rw [Fp.order64_nan x y (h.imp (fun h => decide_eq_true h) (fun h => decide_eq_true h))]
  rfl
theorem c_self {a : Nat} : (FloatKind.f64.format.order a a != some .eq) = decide (9218868437227405312 < a % 9223372036854775808) := by
  show (!(Ieee.double.order a a == some .eq)) = _
  rw [Fp.order64_self]; unfold Fp.isNaN64; simp
theorem c_zero {r : Nat} : (FloatKind.f64.format.order r 0 == some .eq) = decide (r % 9223372036854775808 = 0) := by
  by_cases h : 9218868437227405312 < r % 9223372036854775808
  · rw [c_nan (.inl h), decide_eq_false (by omega)]
  show (Ieee.double.order r 0 == some .eq) = _
  rw [Fp.eq64 _ _ (c_nn (by omega)) (c_nn (by decide))]
  unfold Fp.key64
  refine decide_eq_decide.2 ?_
  split <;> omega
theorem sub_self_zero (x : Nat) :
    (x % 9223372036854775808 < 9218868437227405312 → floatBits .sub .f64 x x = some 0) ∧ (¬ x % 9223372036854775808 < 9218868437227405312 → floatBits .sub .f64 x x = none) := by
  constructor
  · intro hf
    have := Fp.sub_fin Ieee.double x x (by rw [Fp.rg64, Fp.dI]; exact hf) (by rw [Fp.rg64, Fp.dI]; exact hf)
    show Ieee.double.sub x x = some 0
    rw [this, Int.sub_self, if_pos rfl, Bool.and_not_self]
    rfl
  · intro hf
    show ((Ieee.double.read x).sum (Ieee.double.read x).opposite).map Ieee.double.write = none
    rcases Nat.lt_or_ge 9218868437227405312 (x % 9223372036854775808) with g | g
    · obtain ⟨s, k, hr⟩ := read_nan g
      rw [hr]; rfl
    · rw [Fp.read_inf Ieee.double x (by rw [Fp.rg64, Fp.dI]; omega) Fp.dBI]
      cases Fp.sg Ieee.double x <;> rfl
end Go.Proofs.YtjmaggfddinbkaaGreatDoor
end

section
namespace Go.Proofs.YtjmaggfddinbkaaGreatDoor
def RepZ (z : Int) : Prop := ∃ (c : Int) (e : Nat), z = c * 2 ^ e ∧ c.natAbs ≤ 9007199254740992
theorem rn_nat (m : Nat) : ∃ K q, Fp.mag Ieee.double (Fp.grid Ieee.double m 0) = q * 2 ^ K ∧ m < 9007199254740992 * 2 ^ K ∧ q ≤ 9007199254740992 ∧ (K ≠ 0 → 4503599627370496 * 2 ^ K ≤ m) ∧
    2 * m ≤ 2 * (q * 2 ^ K) + 2 ^ K ∧ 2 * (q * 2 ^ K) ≤ 2 * m + 2 ^ K ∧ (m % 2 ^ K = 0 → q * 2 ^ K = m) := by
  obtain ⟨r, h1, h2⟩ := Fp.floor_exists Ieee.double m 1 (by decide)
  rw [Nat.mul_one] at h1 h2
  rw [Fp.mag_succ] at h2
  have hg := Fp.grid_between Ieee.double Fp.dF r 0 (m - Fp.mag Ieee.double r) (by rw [Nat.pow_zero, Nat.mul_one]; omega)
  rw [Nat.pow_zero, Nat.mul_one, Nat.mul_one, show Fp.mag Ieee.double r + (m - Fp.mag Ieee.double r) = m by omega] at hg
  obtain ⟨K, hK⟩ : ∃ K, K = r / 4503599627370496 - 1 := ⟨_, rfl⟩
  have hst : Fp.step Ieee.double r = 2 ^ K := by unfold Fp.step; rw [Fp.dB, ← hK]
  obtain ⟨c, hc, hc1, hc2⟩ : ∃ c, Fp.mag Ieee.double r = c * 2 ^ K ∧ c < 9007199254740992 ∧ (K ≠ 0 → 4503599627370496 ≤ c) := by
    rw [Fp.mag_eq, hst, Fp.dB]
    refine ⟨_, rfl, ?_, ?_⟩
    · split <;> omega
    · intro h; rw [if_neg (by omega)]; omega
  rw [hst] at hg h2
  have hm1 : Fp.mag Ieee.double (r + 1) = (c + 1) * 2 ^ K := by rw [Fp.mag_succ, hst, hc, Nat.add_mul, Nat.one_mul]
  rw [hc] at h1 h2 hg
  have hp := Nat.two_pow_pos K
  have hlt : m < 9007199254740992 * 2 ^ K := by
    have : (c + 1) * 2 ^ K ≤ 9007199254740992 * 2 ^ K := Nat.mul_le_mul_right _ hc1
    rw [Nat.add_mul, Nat.one_mul] at this
    omega
  have hge : K ≠ 0 → 4503599627370496 * 2 ^ K ≤ m := fun h => Nat.le_trans (Nat.mul_le_mul_right _ (hc2 h)) h1
  have hmod : m % 2 ^ K = 0 → c * 2 ^ K = m := by
    intro h
    obtain ⟨d, hd⟩ : ∃ d, m = d * 2 ^ K := ⟨m / 2 ^ K, by rw [Nat.mul_comm]; have := Nat.div_add_mod m (2 ^ K); omega⟩
    rw [hd] at h1 h2 ⊢
    have a1 : c ≤ d := Nat.le_of_mul_le_mul_right h1 hp
    have a2 : d < c + 1 := by
      refine Nat.lt_of_mul_lt_mul_right (a := 2 ^ K) ?_
      rw [Nat.add_mul, Nat.one_mul]; exact h2
    rw [show d = c by omega]
  rw [hg]
  split
  · rename_i hup
    refine ⟨K, c + 1, hm1, hlt, hc1, hge, ?_, ?_, ?_⟩
    · rw [Nat.add_mul, Nat.one_mul]; omega
    · rw [Nat.add_mul, Nat.one_mul]; omega
    · intro h
      have := hmod h
      omega
  · rename_i hup
    rw [Nat.add_zero]
    refine ⟨K, c, hc, hlt, Nat.le_of_lt hc1, hge, ?_, ?_, hmod⟩
    · omega
    · omega
theorem natAbs_mul_pow (q : Int) (K : Nat) : (q * 2 ^ K).natAbs = q.natAbs * 2 ^ K := by
  rw [Int.natAbs_mul, Int.natAbs_pow]; rfl
theorem cast_pow (K : Nat) : ((2 ^ K : Nat) : Int) = 2 ^ K := by simp
theorem rn_abs (z : Int) : (rn z).natAbs = Fp.mag Ieee.double (Fp.grid Ieee.double z.natAbs 0) := by unfold rn; split <;> omega
theorem rn_spec (z : Int) : ∃ (K : Nat) (q : Int), rn z = q * 2 ^ K ∧ z.natAbs < 9007199254740992 * 2 ^ K ∧ q.natAbs ≤ 9007199254740992 ∧ (K ≠ 0 → 4503599627370496 * 2 ^ K ≤ z.natAbs) ∧
    2 * (rn z - z).natAbs ≤ 2 ^ K ∧ (z.natAbs % 2 ^ K = 0 → rn z = z) := by
  obtain ⟨K, q, h1, h2, h3, h4, h5, h6, h7⟩ := rn_nat z.natAbs
  have hz : z.natAbs % 2 ^ K = 0 → rn z = z := by
    intro h
    have := h7 h
    unfold rn
    rw [h1, this]
    split <;> omega
  refine ⟨K, if z < 0 then -(q : Int) else q, ?_, h2, by split <;> omega, h4, ?_, hz⟩
  · unfold rn
    rw [h1, Int.natCast_mul, cast_pow]
    split
    · rw [Int.neg_mul]
    · rfl
  · unfold rn
    rw [h1]
    generalize q * 2 ^ K = Q at *
    generalize 2 ^ K = Z at *
    split <;> omega
theorem dvd_abs {z : Int} {K : Nat} {c : Int} (h : z = c * 2 ^ K) : z.natAbs % 2 ^ K = 0 := by
  rw [h, natAbs_mul_pow]; exact Nat.mul_mod_left _ _
theorem rn_few {z : Int} (h : RepZ z) : rn z = z := by
  obtain ⟨c, e, hz, hc⟩ := h
  obtain ⟨K, q, _, _, _, h4, _, h6⟩ := rn_spec z
  rcases Nat.lt_or_ge e K with h | h
  · have h4 := h4 (by omega)
    obtain ⟨d, rfl⟩ : ∃ d, K = e + 1 + d := ⟨K - (e + 1), by omega⟩
    have ha : z.natAbs = c.natAbs * 2 ^ e := by rw [hz, natAbs_mul_pow]
    have hp := Nat.two_pow_pos e
    have hpd := Nat.two_pow_pos d
    have e1 : 2 ^ (e + 1 + d) = 2 ^ e * (2 * 2 ^ d) := by rw [Nat.pow_add, Nat.pow_succ, Nat.mul_assoc]
    rw [e1, ha] at h4
    have h5 : 4503599627370496 * (2 * 2 ^ d) ≤ c.natAbs := by
      refine Nat.le_of_mul_le_mul_right (c := 2 ^ e) ?_ hp
      rw [Nat.mul_assoc, Nat.mul_comm (2 * 2 ^ d)]; exact h4
    have hd : 2 ^ d = 1 := by omega
    refine h6 ?_
    rw [e1, ha, hd, Nat.mul_one]
    have : c.natAbs = 4503599627370496 * 2 := by omega
    rw [this, Nat.mul_assoc, Nat.mul_comm 2]; exact Nat.mul_mod_left _ _
  · obtain ⟨d, rfl⟩ : ∃ d, e = K + d := ⟨e - K, by omega⟩
    refine h6 (dvd_abs (c := c * 2 ^ d) ?_)
    rw [hz, Int.pow_add, Int.mul_assoc, Int.mul_comm (2 ^ d)]
theorem rn_repz (z : Int) : RepZ (rn z) := by
  obtain ⟨K, q, h1, _, h3, _⟩ := rn_spec z
  exact ⟨q, K, h1, h3⟩
theorem RepZ.neg {z : Int} (h : RepZ z) : RepZ (-z) := by
  obtain ⟨c, e, h, hc⟩ := h
  exact ⟨-c, e, by rw [h, Int.neg_mul], by rw [Int.natAbs_neg]; exact hc⟩
theorem rn_nearest {z y : Int} (h : RepZ y) : (rn z - z).natAbs ≤ (y - z).natAbs := by
  obtain ⟨c, e, hy, hc⟩ := h
  obtain ⟨K, q, h1, h2, h3, h4, h5, h6⟩ := rn_spec z
  have near : ∀ d : Int, (rn z - z).natAbs ≤ (d * 2 ^ K - z).natAbs := by
    intro d
    by_cases hd : d = q
    · rw [h1, hd]; exact Nat.le_refl _
    · have e1 : (d * 2 ^ K - rn z).natAbs = (d - q).natAbs * 2 ^ K := by rw [h1, ← Int.sub_mul, natAbs_mul_pow]
      have e2 : 1 * 2 ^ K ≤ (d - q).natAbs * 2 ^ K := Nat.mul_le_mul_right _ (by omega)
      rw [← e1, Nat.one_mul] at e2
      generalize d * 2 ^ K = D at *
      generalize 2 ^ K = Z at *
      omega
  rcases Nat.lt_or_ge e K with hlt | hge
  · have h4 := h4 (by omega)
    have hp := Nat.two_pow_pos e
    have hab : y.natAbs ≤ 4503599627370496 * 2 ^ K := by
      rw [hy, natAbs_mul_pow]
      obtain ⟨d, rfl⟩ : ∃ d, K = e + 1 + d := ⟨K - (e + 1), by omega⟩
      have e1 : 2 ^ (e + 1 + d) = 2 * 2 ^ d * 2 ^ e := by rw [Nat.pow_add, Nat.pow_succ, Nat.mul_comm (2 ^ e) 2, Nat.mul_assoc, Nat.mul_assoc, Nat.mul_comm (2 ^ e)]
      rw [e1, ← Nat.mul_assoc]
      have := Nat.two_pow_pos d
      exact Nat.mul_le_mul_right _ (by omega)
    have n1 := near 4503599627370496
    have n2 := near (-4503599627370496)
    have e1 : (4503599627370496 : Int) * 2 ^ K = ((4503599627370496 * 2 ^ K : Nat) : Int) := by simp
    rw [Int.neg_mul] at n2
    rw [e1] at n1 n2
    generalize 4503599627370496 * 2 ^ K = T at *
    omega
  · obtain ⟨d, rfl⟩ : ∃ d, e = K + d := ⟨e - K, by omega⟩
    have := near (c * 2 ^ d)
    rwa [show c * 2 ^ d * 2 ^ K = y by rw [hy, Int.pow_add, Int.mul_assoc, Int.mul_comm (2 ^ d)]] at this
theorem rn_mult {z c : Int} {i : Nat} (h : z = c * 2 ^ i) : ∃ d : Int, rn z = d * 2 ^ i := by
  obtain ⟨K, q, h1, _, _, _, _, h6⟩ := rn_spec z
  rcases Nat.lt_or_ge K i with hlt | hge
  · obtain ⟨d, rfl⟩ : ∃ d, i = K + d := ⟨i - K, by omega⟩
    exact ⟨c, by rw [h6 (dvd_abs (c := c * 2 ^ d) (by rw [h, Int.pow_add, Int.mul_assoc, Int.mul_comm (2 ^ d)])), h]⟩
  · obtain ⟨d, rfl⟩ : ∃ d, K = i + d := ⟨K - i, by omega⟩
    exact ⟨q * 2 ^ d, by rw [h1, Int.pow_add, Int.mul_assoc, Int.mul_comm (2 ^ d)]⟩
theorem repz_of {z d : Int} {i n : Nat} (h : z = d * 2 ^ i) (hz : z.natAbs ≤ n * 2 ^ i) (hn : n ≤ 9007199254740992) : RepZ z := by
  refine ⟨d, i, h, ?_⟩
  rw [h, natAbs_mul_pow] at hz
  exact Nat.le_trans (Nat.le_of_mul_le_mul_right hz (Nat.two_pow_pos i)) hn
theorem canon_of {A : Int} (h : RepZ A) : ∃ (k : Nat) (a : Int), A = a * 2 ^ k ∧ a.natAbs < 9007199254740992 ∧ (k ≠ 0 → 4503599627370496 * 2 ^ k ≤ A.natAbs) := by
  obtain ⟨K, q, h1, h2, _, h4, _, _⟩ := rn_spec A
  rw [rn_few h] at h1
  refine ⟨K, q, h1, ?_, h4⟩
  rw [h1, natAbs_mul_pow] at h2
  exact Nat.lt_of_mul_lt_mul_right h2
theorem mult_le {z c : Int} {k K : Nat} (h : z = c * 2 ^ k) (hk : K ≤ k) : ∃ d : Int, z = d * 2 ^ K := by
  obtain ⟨m, rfl⟩ : ∃ m, k = K + m := ⟨k - K, by omega⟩
  exact ⟨c * 2 ^ m, by rw [h, Int.pow_add, Int.mul_assoc, Int.mul_comm (2 ^ m)]⟩
theorem mult_add {y z : Int} {K : Nat} (h : ∃ d : Int, y = d * 2 ^ K) (g : ∃ d : Int, z = d * 2 ^ K) : (∃ d : Int, y + z = d * 2 ^ K) ∧ ∃ d : Int, y - z = d * 2 ^ K := by
  obtain ⟨a, rfl⟩ := h
  obtain ⟨b, rfl⟩ := g
  exact ⟨⟨a + b, by rw [Int.add_mul]⟩, ⟨a - b, by rw [Int.sub_mul]⟩⟩
theorem rn_mult' {z : Int} {K : Nat} (h : ∃ d : Int, z = d * 2 ^ K) : ∃ d : Int, rn z = d * 2 ^ K := by
  obtain ⟨c, hc⟩ := h; exact rn_mult hc
end Go.Proofs.YtjmaggfddinbkaaGreatDoor
end

section
namespace Go.Proofs.YtjmaggfddinbkaaGreatDoor
theorem pow_up {i j : Nat} (h : i < j) : 2 * 2 ^ i ≤ 2 ^ j := by rw [← Nat.pow_succ']; exact Nat.pow_le_pow_right (by decide) h
end Go.Proofs.YtjmaggfddinbkaaGreatDoor
end

section
namespace Go.Proofs.YtjmaggfddinbkaaGreatDoor
def Mu (k : Nat) (z : Int) : Prop := ∃ d : Int, z = d * 2 ^ k
theorem Mu.zero (k : Nat) : Mu k 0 := ⟨0, by simp⟩
theorem Mu.le {k j : Nat} {z : Int} (h : Mu k z) (hj : j ≤ k) : Mu j z := by
  obtain ⟨d, h⟩ := h
  exact mult_le h hj
theorem Mu.add {k : Nat} {y z : Int} (h : Mu k y) (g : Mu k z) : Mu k (y + z) := (mult_add h g).1
theorem Mu.sub {k : Nat} {y z : Int} (h : Mu k y) (g : Mu k z) : Mu k (y - z) := (mult_add h g).2
theorem Mu.rn {k : Nat} {z : Int} (h : Mu k z) : Mu k (rn z) := rn_mult' h
theorem Mu.mul {k : Nat} {z : Int} (h : Mu k z) (b : Int) : Mu k (z * b) := by
  obtain ⟨d, h⟩ := h
  exact ⟨d * b, by rw [h, Int.mul_right_comm]⟩
theorem Mu.none (z : Int) : Mu 0 z := ⟨z, by simp⟩
theorem Mu.abs {k : Nat} {z : Int} (h : Mu k z) : ∃ c : Nat, z.natAbs = c * 2 ^ k := by
  obtain ⟨d, h⟩ := h
  exact ⟨d.natAbs, by rw [h, natAbs_mul_pow]⟩
theorem Mu.small {k : Nat} {z : Int} (h : Mu k z) (g : z.natAbs < 2 ^ k) : z = 0 := by
  obtain ⟨c, hc⟩ := h.abs
  rcases Nat.eq_zero_or_pos c with h0 | h0
  · rw [h0, Nat.zero_mul] at hc; omega
  · have := Nat.mul_le_mul_right (2 ^ k) h0
    omega
theorem Mu.least {k : Nat} {z : Int} (h : Mu k z) (g : z ≠ 0) : 2 ^ k ≤ z.natAbs := by
  rcases Nat.lt_or_ge z.natAbs (2 ^ k) with h1 | h1
  · exact absurd (h.small h1) g
  · exact h1
def zl (x : Int) : Nat := x.natAbs.log2 + 1
theorem zl_lt (x : Int) : x.natAbs < 2 ^ zl x := Nat.lt_log2_self
theorem zl_le {x : Int} {k : Nat} (h0 : x ≠ 0) (h : x.natAbs < 2 ^ k) : zl x ≤ k := by
  have h1 : x.natAbs ≠ 0 := by omega
  have := (Nat.log2_lt h1).2 h
  unfold zl
  omega
def Low (x y : Int) : Prop := Mu (zl x) y
theorem Low.of {x y : Int} {k : Nat} (h0 : x ≠ 0) (h : x.natAbs < 2 ^ k) (g : Mu k y) : Low x y := g.le (zl_le h0 h)
theorem Low.trans {x y z : Int} (hy : y ≠ 0) (h : Low x y) (g : Low y z) : Low x z := by
  refine g.le ?_
  have h1 := h.least hy
  have h2 := Nat.lt_of_le_of_lt h1 (zl_lt y)
  have := (Nat.pow_lt_pow_iff_right (show 1 < 2 by decide)).1 h2
  omega
def Chain : List Int → Prop
  | [] => True
  | [x] => x ≠ 0
  | x :: y :: l => x ≠ 0 ∧ Low x y ∧ Chain (y :: l)
theorem Chain.head {x : Int} {l : List Int} (h : Chain (x :: l)) : x ≠ 0 := by
  cases l with
  | nil => exact h
  | cons y l => exact h.1
theorem rn_zero_rep : RepZ 0 := ⟨0, 0, rfl, by decide⟩
theorem rn_amt {z y : Int} (hy : RepZ y) (h : z.natAbs ≤ y.natAbs) : (rn z).natAbs ≤ y.natAbs := by
  rcases Int.le_total 0 z with hz | hz <;> rcases Int.le_total 0 y with hy0 | hy0
  · have := rn_nearest (z := z) hy
    have := rn_nearest (z := z) rn_zero_rep
    omega
  · have := rn_nearest (z := z) hy.neg
    have := rn_nearest (z := z) rn_zero_rep
    omega
  · have := rn_nearest (z := z) hy.neg
    have := rn_nearest (z := z) rn_zero_rep
    omega
  · have := rn_nearest (z := z) hy
    have := rn_nearest (z := z) rn_zero_rep
    omega
end Go.Proofs.YtjmaggfddinbkaaGreatDoor
end

section
namespace Go.Proofs.YtjmaggfddinbkaaGreatDoor
theorem mag_grid {m : Nat} (h : 52 ≤ m.log2) (h0 : m ≠ 0) : Fp.mag Ieee.double (Fp.grid Ieee.double m 0) = Fp.rne m (2 ^ (m.log2 - 52)) * 2 ^ (m.log2 - 52) := by
  have hF : Ieee.double.fractionBits = 52 := by decide
  obtain ⟨L, hL⟩ : ∃ L, L = m.log2 - 52 := ⟨_, rfl⟩
  have e : Fp.grid Ieee.double m 0 = L * 4503599627370496 + Fp.rne m (2 ^ L) := by
    unfold Fp.grid
    rw [hF, Fp.dB, ← hL, show max L 0 = L by omega, Nat.sub_zero]
  rw [e, ← hL]
  have hp := Nat.two_pow_pos L
  have b1 : 4503599627370496 * 2 ^ L ≤ m := by
    have := Nat.log2_self_le h0
    rw [show m.log2 = 52 + L by omega, Nat.pow_add] at this
    exact this
  have b2 : m < 9007199254740992 * 2 ^ L := by
    have := Nat.lt_log2_self (n := m)
    rw [show m.log2 + 1 = 53 + L by omega, Nat.pow_add] at this
    exact this
  have c1 : 4503599627370496 ≤ m / 2 ^ L := (Nat.le_div_iff_mul_le hp).2 b1
  have c2 : m / 2 ^ L < 9007199254740992 := (Nat.div_lt_iff_lt_mul hp).2 b2
  have d : m / 2 ^ L ≤ Fp.rne m (2 ^ L) ∧ Fp.rne m (2 ^ L) ≤ m / 2 ^ L + 1 := by unfold Fp.rne; split <;> omega
  generalize Fp.rne m (2 ^ L) = r at *
  rw [Fp.mag_eq]
  unfold Fp.step
  rw [Fp.dB, if_neg (by omega)]
  rcases Nat.lt_or_ge r 9007199254740992 with h1 | h1
  · rw [show (L * 4503599627370496 + r) / 4503599627370496 - 1 = L by omega, show 4503599627370496 + (L * 4503599627370496 + r) % 4503599627370496 = r by omega]
  · have h2 : r = 9007199254740992 := by omega
    rw [h2, show (L * 4503599627370496 + 9007199254740992) / 4503599627370496 - 1 = L + 1 by omega, show 4503599627370496 + (L * 4503599627370496 + 9007199254740992) % 4503599627370496 = 4503599627370496 by omega, Nat.pow_succ]
    omega
theorem repz_shift {z : Int} {j : Nat} : RepZ (z * 2 ^ j) ↔ RepZ z := by
  constructor
  · rintro ⟨c, e, h, hc⟩
    rcases Nat.lt_or_ge e j with h1 | h1
    · obtain ⟨d, rfl⟩ : ∃ d, j = e + d := ⟨j - e, by omega⟩
      have hp : (2 : Int) ^ e ≠ 0 := Int.pow_ne_zero (by decide)
      have : z * 2 ^ d = c := by
        refine Int.eq_of_mul_eq_mul_right hp ?_
        rw [← h, Int.pow_add, Int.mul_assoc, Int.mul_comm (2 ^ d)]
      refine ⟨z, 0, by simp, Nat.le_trans ?_ hc⟩
      rw [← this, natAbs_mul_pow]
      exact Nat.le_mul_of_pos_right _ (Nat.two_pow_pos d)
    · obtain ⟨d, rfl⟩ : ∃ d, e = j + d := ⟨e - j, by omega⟩
      have hp : (2 : Int) ^ j ≠ 0 := Int.pow_ne_zero (by decide)
      refine ⟨c, d, Int.eq_of_mul_eq_mul_right hp ?_, hc⟩
      rw [h, Int.pow_add, Int.mul_assoc, Int.mul_comm (2 ^ d)]
  · rintro ⟨c, e, h, hc⟩
    exact ⟨c, e + j, by rw [h, Int.pow_add, Int.mul_assoc], hc⟩
theorem rn_shift (z : Int) (j : Nat) : rn (z * 2 ^ j) = rn z * 2 ^ j := by
  have key : ∀ m : Nat, Fp.mag Ieee.double (Fp.grid Ieee.double (m * 2 ^ j) 0) = Fp.mag Ieee.double (Fp.grid Ieee.double m 0) * 2 ^ j := by
    intro m
    by_cases h0 : m = 0
    · subst h0; rw [Nat.zero_mul, Fp.grid_zero, Fp.mag_zero, Nat.zero_mul]
    have hl := Fp.log2_mul_pow m j h0
    have hp := Nat.two_pow_pos j
    rcases Nat.lt_or_ge m.log2 52 with h1 | h1
    · have hm : m < 9007199254740992 := by
        have := Nat.lt_log2_self (n := m)
        exact Nat.lt_of_lt_of_le this (Nat.le_trans (Nat.pow_le_pow_right (by decide) (show m.log2 + 1 ≤ 53 by omega)) (by decide))
      have f1 := rn_few (z := (m : Int)) ⟨m, 0, by simp, by omega⟩
      have f2 := rn_few (z := ((m * 2 ^ j : Nat) : Int)) ⟨m, j, by rw [Int.natCast_mul, cast_pow], by omega⟩
      have g1 := rn_abs (m : Int)
      have g2 := rn_abs ((m * 2 ^ j : Nat) : Int)
      rw [f1] at g1
      rw [f2] at g2
      rw [Int.natAbs_natCast] at g1 g2
      rw [← g1, ← g2]
    · have hm0 : m * 2 ^ j ≠ 0 := Nat.mul_ne_zero h0 (by omega)
      rw [mag_grid (by omega) hm0, mag_grid h1 h0, hl, show m.log2 + j - 52 = m.log2 - 52 + j by omega, Nat.pow_add, Fp.rne_scale _ _ _ hp, Nat.mul_assoc]
  have hP : (0 : Int) < 2 ^ j := Int.pow_pos (by decide)
  have hn : (z * 2 ^ j < 0) ↔ z < 0 := by
    constructor
    · intro h
      rcases Int.lt_or_le z 0 with h1 | h1
      · exact h1
      · exact absurd h (Int.not_lt.2 (Int.mul_nonneg h1 (Int.le_of_lt hP)))
    · intro h; exact Int.mul_neg_of_neg_of_pos h hP
  unfold rn
  rw [natAbs_mul_pow, key]
  by_cases h : z < 0
  · rw [if_pos (hn.2 h), if_pos h, Int.natCast_mul, cast_pow, Int.neg_mul]
  · rw [if_neg (fun g => h (hn.1 g)), if_neg h, Int.natCast_mul, cast_pow]
def splC (A : Int) : Int := rn (134217729 * A)
def splH (A : Int) : Int := rn (splC A - rn (splC A - A))
def splL (A : Int) : Int := rn (A - splH A)
theorem spl_shift (A : Int) (j : Nat) : splH (A * 2 ^ j) = splH A * 2 ^ j ∧ splL (A * 2 ^ j) = splL A * 2 ^ j := by
  have h1 : splC (A * 2 ^ j) = splC A * 2 ^ j := by unfold splC; rw [← Int.mul_assoc, rn_shift]
  have h2 : splH (A * 2 ^ j) = splH A * 2 ^ j := by
    unfold splH
    rw [h1, ← Int.sub_mul, rn_shift, ← Int.sub_mul, rn_shift]
  refine ⟨h2, ?_⟩
  unfold splL
  rw [h2, ← Int.sub_mul, rn_shift]
theorem spl_neg (A : Int) : splH (-A) = -splH A ∧ splL (-A) = -splL A := by
  have h1 : splC (-A) = -splC A := by unfold splC; rw [Int.mul_neg, rn_neg]
  have h2 : splH (-A) = -splH A := by
    unfold splH
    rw [h1, show -splC A - -A = -(splC A - A) by omega, rn_neg, show -splC A - -rn (splC A - A) = -(splC A - rn (splC A - A)) by omega, rn_neg]
  refine ⟨h2, ?_⟩
  unfold splL
  rw [h2, show -A - -splH A = -(A - splH A) by omega, rn_neg]
theorem int_repz {z : Int} (h : z.natAbs ≤ 9007199254740992) : RepZ z := ⟨z, 0, by simp, h⟩
theorem grid_at {z : Int} {L : Nat} (h1 : 4503599627370496 * 2 ^ L ≤ z.natAbs) (h2 : z.natAbs < 9007199254740992 * 2 ^ L) : Mu L (rn z) ∧ 2 * (rn z - z).natAbs ≤ 2 ^ L := by
  obtain ⟨K, q, g1, g2, _, g4, g5, _⟩ := rn_spec z
  have e1 : ¬ K < L := fun h => by have := pow_up h; omega
  have e2 : ¬ L < K := fun h => by have := pow_up h; have := g4 (by omega); omega
  have e : K = L := by omega
  subst e
  exact ⟨⟨q, g1⟩, g5⟩
theorem spl_pos {a : Int} (h1 : 4503599627370496 ≤ a) (h2 : a < 9007199254740992) : ∃ h l : Int, splH a = h ∧ splL a = l ∧ h + l = a ∧ Mu 27 h ∧ h.natAbs ≤ 9007199254740992 ∧ l.natAbs ≤ 67108864 := by
  have p27 : (2 : Nat) ^ 27 = 134217728 := by decide
  have p28 : (2 : Nat) ^ 28 = 268435456 := by decide
  -- the product with the splitter
  obtain ⟨c, hc⟩ : ∃ c, c = rn (134217729 * a) := ⟨_, rfl⟩
  have hcm : Mu 27 c ∧ 604462909807314587353088 ≤ c - a ∧ c - a ≤ 1208925819614629174706176 ∧ (c - 134217729 * a).natAbs ≤ 134217728 := by
    rcases Int.lt_or_le (134217729 * a) 1208925819614629174706176 with h | h
    · obtain ⟨g1, g2⟩ := grid_at (z := 134217729 * a) (L := 27) (by rw [p27]; omega) (by rw [p27]; omega)
      rw [← hc] at g1 g2
      rw [p27] at g2
      refine ⟨g1, ?_, by omega, by omega⟩
      by_cases ha : a = 4503599627370496
      · have : c = 134217729 * a := by rw [hc]; exact rn_few ⟨134217729, 52, by rw [ha]; decide, by decide⟩
        omega
      · omega
    · obtain ⟨g1, g2⟩ := grid_at (z := 134217729 * a) (L := 28) (by rw [p28]; omega) (by rw [p28]; omega)
      rw [← hc] at g1 g2
      rw [p28] at g2
      exact ⟨g1.le (by decide), by omega, by omega, by omega⟩
  obtain ⟨c1, c2, c3, c4⟩ := hcm
  obtain ⟨d, hd⟩ : ∃ d, d = rn (c - a) := ⟨_, rfl⟩
  have hdm : Mu 27 d ∧ (d - (c - a)).natAbs ≤ 67108864 := by
    by_cases h : c - a = 1208925819614629174706176
    · have : d = c - a := by rw [hd]; exact rn_few ⟨1, 80, by rw [h]; decide, by decide⟩
      exact ⟨⟨9007199254740992, by rw [this, h]; decide⟩, by omega⟩
    · obtain ⟨g1, g2⟩ := grid_at (z := c - a) (L := 27) (by rw [p27]; omega) (by rw [p27]; omega)
      rw [← hd] at g1 g2
      rw [p27] at g2
      exact ⟨g1, by omega⟩
  obtain ⟨d1, d2⟩ := hdm
  have mh : Mu 27 (c - d) := c1.sub d1
  have hle : (c - d).natAbs ≤ 9007199254740992 := by
    obtain ⟨e, he⟩ := mh
    rw [show (2 : Int) ^ 27 = 134217728 by decide] at he
    omega
  have eH : splH a = c - d := by
    unfold splH splC
    rw [← hc, ← hd]
    exact rn_few (int_repz hle)
  have eL : splL a = a - (c - d) := by
    unfold splL
    rw [eH]
    exact rn_few (int_repz (by omega))
  exact ⟨c - d, a - (c - d), eH, eL, by omega, mh, hle, by omega⟩
theorem Mu.neg {k : Nat} {z : Int} (h : Mu k z) : Mu k (-z) := by
  have := (Mu.zero k).sub h
  rwa [Int.zero_sub] at this
theorem spl_norm {a : Int} (h1 : 4503599627370496 ≤ a.natAbs) (h2 : a.natAbs < 9007199254740992) : ∃ h l : Int, splH a = h ∧ splL a = l ∧ h + l = a ∧ Mu 27 h ∧ h.natAbs ≤ 9007199254740992 ∧ l.natAbs ≤ 67108864 := by
  rcases Int.le_total 0 a with h0 | h0
  · exact spl_pos (by omega) (by omega)
  · obtain ⟨h, l, g1, g2, g3, g4, g5, g6⟩ := spl_pos (a := -a) (by omega) (by omega)
    obtain ⟨n1, n2⟩ := spl_neg a
    rw [n1] at g1
    rw [n2] at g2
    exact ⟨-h, -l, by omega, by omega, by omega, g4.neg, by rw [Int.natAbs_neg]; exact g5, by rw [Int.natAbs_neg]; exact g6⟩
theorem norm_of {A : Int} (h : RepZ A) (h0 : A ≠ 0) : ∃ (a : Int) (j u : Nat), A * 2 ^ j = a * 2 ^ u ∧ 4503599627370496 ≤ a.natAbs ∧ a.natAbs < 9007199254740992 := by
  obtain ⟨k, a, h1, h2, _⟩ := canon_of h
  have ha : a.natAbs ≠ 0 := by
    intro g
    have hz : a = 0 := by omega
    rw [h1, hz, Int.zero_mul] at h0
    exact h0 rfl
  have hl : a.natAbs.log2 ≤ 52 := by
    have := (Nat.log2_lt ha).2 (show a.natAbs < 2 ^ 53 from h2)
    omega
  obtain ⟨j, hj⟩ : ∃ j, j = 52 - a.natAbs.log2 := ⟨_, rfl⟩
  have b1 := Nat.log2_self_le ha
  have b2 := Nat.lt_log2_self (n := a.natAbs)
  refine ⟨a * 2 ^ j, j, k, ?_, ?_, ?_⟩
  · rw [h1, Int.mul_assoc, Int.mul_assoc, Int.mul_comm (2 ^ k)]
  · rw [natAbs_mul_pow]
    have := Nat.mul_le_mul_right (2 ^ j) b1
    rwa [← Nat.pow_add, show a.natAbs.log2 + j = 52 by omega] at this
  · rw [natAbs_mul_pow]
    have := Nat.mul_lt_mul_of_pos_right b2 (Nat.two_pow_pos j)
    rwa [← Nat.pow_add, show a.natAbs.log2 + 1 + j = 53 by omega] at this
theorem abs_mul_le {x y : Int} {m n : Nat} (hx : x.natAbs ≤ m) (hy : y.natAbs ≤ n) : (x * y).natAbs ≤ m * n := by
  rw [Int.natAbs_mul]; exact Nat.mul_le_mul hx hy
theorem dekker_norm {a b : Int} (ha1 : 4503599627370496 ≤ a.natAbs) (ha2 : a.natAbs < 9007199254740992) (hb1 : 4503599627370496 ≤ b.natAbs) (hb2 : b.natAbs < 9007199254740992) :
    splH a + splL a = a ∧ splH b + splL b = b ∧ RepZ (splH a * splH b) ∧ RepZ (splL a * splH b) ∧ RepZ (splH a * splL b) ∧ RepZ (splL a * splL b) ∧ RepZ (rn (a * b) - splH a * splH b) ∧
    RepZ (rn (a * b) - splH a * splH b - splL a * splH b) ∧ RepZ (rn (a * b) - splH a * splH b - splL a * splH b - splH a * splL b) ∧ RepZ (a * b - rn (a * b)) := by
  obtain ⟨h, l, e1, e2, e3, ⟨h', mh⟩, nh, nl⟩ := spl_norm ha1 ha2
  obtain ⟨i, k, f1, f2, f3, ⟨i', mi⟩, ni, nk⟩ := spl_norm hb1 hb2
  rw [e1, e2, f1, f2]
  have p27 : (2 : Int) ^ 27 = 134217728 := by decide
  rw [p27] at mh mi
  have nh' : h'.natAbs ≤ 67108864 := by omega
  have ni' : i'.natAbs ≤ 67108864 := by omega
  have q1 := abs_mul_le nh' ni'
  have q2 := abs_mul_le nh' nk
  have q3 := abs_mul_le nl ni'
  have q4 := abs_mul_le nl nk
  have x1 : h * i = h' * i' * 2 ^ 54 := by rw [mh, mi, show (2 : Int) ^ 54 = 134217728 * 134217728 by decide]; ac_rfl
  have x2 : h * k = h' * k * 2 ^ 27 := by rw [mh, p27]; ac_rfl
  have x3 : l * i = l * i' * 2 ^ 27 := by rw [mi, p27]; ac_rfl
  have hab : a * b = h * i + h * k + l * i + l * k := by
    rw [← e3, ← f3, Int.add_mul, Int.mul_add, Int.mul_add]; omega
  have hP1 : 20282409603651670423947251286016 ≤ (a * b).natAbs := by rw [Int.natAbs_mul]; exact Nat.mul_le_mul ha1 hb1
  have hP2 : (a * b).natAbs < 81129638414606681695789005144064 := by
    rw [Int.natAbs_mul]
    exact Nat.lt_of_le_of_lt (Nat.mul_le_mul (show a.natAbs ≤ 9007199254740991 by omega) (show b.natAbs ≤ 9007199254740991 by omega)) (by decide)
  have hp : Mu 52 (rn (a * b)) ∧ (rn (a * b) - a * b).natAbs ≤ 4503599627370496 := by
    rcases Nat.lt_or_ge (a * b).natAbs 40564819207303340847894502572032 with g | g
    · obtain ⟨g1, g2⟩ := grid_at (z := a * b) (L := 52) (Nat.le_trans (by decide) hP1) (Nat.lt_of_lt_of_le g (by decide))
      rw [show (2 : Nat) ^ 52 = 4503599627370496 by decide] at g2
      exact ⟨g1, by omega⟩
    · obtain ⟨g1, g2⟩ := grid_at (z := a * b) (L := 53) (Nat.le_trans (by decide) g) (Nat.lt_of_lt_of_le hP2 (by decide))
      rw [show (2 : Nat) ^ 53 = 9007199254740992 by decide] at g2
      exact ⟨g1.le (by decide), by omega⟩
  obtain ⟨⟨p', hp1⟩, hp2⟩ := hp
  obtain ⟨p, ep⟩ : ∃ p, p = rn (a * b) := ⟨_, rfl⟩
  rw [← ep] at hp1 hp2 ⊢
  obtain ⟨P, eP⟩ : ∃ P, P = a * b := ⟨_, rfl⟩
  rw [← eP] at hab hp2 ⊢
  clear ep eP hP1 hP2 e1 e2 f1 f2
  have m1 : Mu 52 (p - h * i) := Mu.sub ⟨p', hp1⟩ (Mu.le (k := 54) ⟨h' * i', x1⟩ (by decide))
  have m2 : Mu 27 (p - h * i - l * i) := (m1.le (by decide)).sub ⟨_, x3⟩
  have r1 : RepZ (h * i) := ⟨h' * i', 54, x1, Nat.le_trans q1 (by decide)⟩
  have r2 : RepZ (l * i) := ⟨l * i', 27, x3, Nat.le_trans q3 (by decide)⟩
  have r3 : RepZ (h * k) := ⟨h' * k, 27, x2, Nat.le_trans q2 (by decide)⟩
  have r4 : RepZ (l * k) := int_repz (Nat.le_trans q4 (by decide))
  have p27' : (2 : Int) ^ 27 = 134217728 := by decide
  rw [p27'] at x2 x3
  generalize h' * k = hk at *
  generalize l * i' = li at *
  generalize h * i = HI at *
  generalize h * k = HK at *
  generalize l * i = LI at *
  generalize l * k = LK at *
  refine ⟨e3, f3, r1, r2, r3, r4, ?_, ?_, ?_, ?_⟩
  · obtain ⟨d, hd⟩ := m1
    exact repz_of hd (n := 9007199254740992) (by rw [show (2 : Nat) ^ 52 = 4503599627370496 by decide]; omega) (Nat.le_refl _)
  · obtain ⟨d, hd⟩ := m2
    exact repz_of hd (n := 9007199254740992) (by rw [show (2 : Nat) ^ 27 = 134217728 by decide]; omega) (Nat.le_refl _)
  · exact int_repz (by omega)
  · exact int_repz (by omega)
end Go.Proofs.YtjmaggfddinbkaaGreatDoor
end

section
namespace Go.Proofs.YtjmaggfddinbkaaGreatDoor
theorem Mu.mul' {k : Nat} {z : Int} (h : Mu k z) (b : Int) : Mu k (b * z) := by rw [Int.mul_comm]; exact h.mul b
theorem hsum {H h : Int} {k K : Nat} (hH : H.natAbs < 2 ^ k) (hm : Mu k h) (h0 : h ≠ 0) (hK : 2 * h.natAbs ≤ 2 ^ K) : (H + h).natAbs < 2 ^ K := by
  have := hm.least h0
  omega
end Go.Proofs.YtjmaggfddinbkaaGreatDoor
end

section
namespace Go.Proofs.YtjmaggfddinbkaaGreatDoor
theorem spl_mu {A : Int} {u : Nat} (h : Mu u A) : Mu u (splH A) ∧ Mu u (splL A) := by
  have hc : Mu u (splC A) := by unfold splC; exact (h.mul' 134217729).rn
  have hh : Mu u (splH A) := by unfold splH; exact (hc.sub (hc.sub h).rn).rn
  exact ⟨hh, by unfold splL; exact (h.sub hh).rn⟩
theorem spl_zero : splH 0 = 0 ∧ splL 0 = 0 := by
  have hc : splC 0 = 0 := by unfold splC; rw [Int.mul_zero, rn_zero]
  have hh : splH 0 = 0 := by unfold splH; rw [hc, Int.sub_self, rn_zero, Int.sub_self, rn_zero]
  exact ⟨hh, by unfold splL; rw [hh, Int.sub_self, rn_zero]⟩
structure Dek (A B : Int) : Prop where
  a : splH A + splL A = A
  b : splH B + splL B = B
  hi : RepZ (splH A * splH B)
  li : RepZ (splL A * splH B)
  hk : RepZ (splH A * splL B)
  lk : RepZ (splL A * splL B)
  d1 : RepZ (rn (A * B) - splH A * splH B)
  d2 : RepZ (rn (A * B) - splH A * splH B - splL A * splH B)
  d3 : RepZ (rn (A * B) - splH A * splH B - splL A * splH B - splH A * splL B)
  e : RepZ (A * B - rn (A * B))
theorem repz_two {x y : Int} {i j : Nat} (h : x * 2 ^ i = y * 2 ^ j) (g : RepZ y) : RepZ x := repz_shift.1 (by rw [h]; exact repz_shift.2 g)
theorem eq_of_shift {x y : Int} {j : Nat} (h : x * 2 ^ j = y * 2 ^ j) : x = y := Int.eq_of_mul_eq_mul_right (Int.pow_ne_zero (by decide)) h
theorem mul_shift {x y a b : Int} {i j u v : Nat} (hx : x * 2 ^ i = a * 2 ^ u) (hy : y * 2 ^ j = b * 2 ^ v) : x * y * 2 ^ (i + j) = a * b * 2 ^ (u + v) := by
  have e1 : x * y * 2 ^ (i + j) = (x * 2 ^ i) * (y * 2 ^ j) := by rw [Int.pow_add]; ac_rfl
  have e2 : a * b * 2 ^ (u + v) = (a * 2 ^ u) * (b * 2 ^ v) := by rw [Int.pow_add]; ac_rfl
  rw [e1, e2, hx, hy]
theorem dekker {A B : Int} (hA : RepZ A) (hB : RepZ B) : Dek A B := by
  have hz : RepZ 0 := rn_zero_rep
  by_cases a0 : A = 0
  · subst a0
    obtain ⟨h1, h2⟩ := spl_zero
    have hs : splH B + splL B = B := by
      by_cases b0 : B = 0
      · subst b0; rw [h1, h2]; rfl
      · obtain ⟨b, j, u, hb, b1, b2⟩ := norm_of hB b0
        obtain ⟨e, _⟩ := dekker_norm b1 b2 b1 b2
        obtain ⟨s1, s2⟩ := spl_shift B j
        obtain ⟨t1, t2⟩ := spl_shift b u
        refine eq_of_shift (j := j) ?_
        rw [Int.add_mul, ← s1, ← s2, hb, t1, t2, ← Int.add_mul, e]
    constructor <;> simp only [h1, h2, Int.zero_mul, Int.sub_self, rn_zero, Int.add_zero, hz, hs]
  by_cases b0 : B = 0
  · subst b0
    obtain ⟨h1, h2⟩ := spl_zero
    have hs : splH A + splL A = A := by
      obtain ⟨a, j, u, ha, a1, a2⟩ := norm_of hA a0
      obtain ⟨e, _⟩ := dekker_norm a1 a2 a1 a2
      obtain ⟨s1, s2⟩ := spl_shift A j
      obtain ⟨t1, t2⟩ := spl_shift a u
      refine eq_of_shift (j := j) ?_
      rw [Int.add_mul, ← s1, ← s2, ha, t1, t2, ← Int.add_mul, e]
    constructor <;> simp only [h1, h2, Int.mul_zero, Int.sub_self, rn_zero, Int.add_zero, hz, hs]
  obtain ⟨a, i, u, ha, a1, a2⟩ := norm_of hA a0
  obtain ⟨b, j, v, hb, b1, b2⟩ := norm_of hB b0
  obtain ⟨e1, e2, r1, r2, r3, r4, r5, r6, r7, r8⟩ := dekker_norm a1 a2 b1 b2
  obtain ⟨s1, s2⟩ := spl_shift A i
  obtain ⟨t1, t2⟩ := spl_shift a u
  rw [ha, t1] at s1
  rw [ha, t2] at s2
  obtain ⟨s3, s4⟩ := spl_shift B j
  obtain ⟨t3, t4⟩ := spl_shift b v
  rw [hb, t3] at s3
  rw [hb, t4] at s4
  have m1 := mul_shift s1.symm s3.symm
  have m2 := mul_shift s2.symm s3.symm
  have m3 := mul_shift s1.symm s4.symm
  have m4 := mul_shift s2.symm s4.symm
  have m0 := mul_shift ha hb
  have mr : rn (A * B) * 2 ^ (i + j) = rn (a * b) * 2 ^ (u + v) := by rw [← rn_shift, m0, rn_shift]
  have h1 : splH A + splL A = A := eq_of_shift (j := i) (by rw [Int.add_mul, ← s1, ← s2, ← Int.add_mul, e1, ha])
  have h2 : splH B + splL B = B := eq_of_shift (j := j) (by rw [Int.add_mul, ← s3, ← s4, ← Int.add_mul, e2, hb])
  refine ⟨h1, h2, repz_two m1 r1, repz_two m2 r2, repz_two m3 r3, repz_two m4 r4, repz_two (i := i + j) (j := u + v) ?_ r5, repz_two (i := i + j) (j := u + v) ?_ r6, repz_two (i := i + j) (j := u + v) ?_ r7, repz_two (i := i + j) (j := u + v) ?_ r8⟩
  · rw [Int.sub_mul, Int.sub_mul, mr, m1]
  · rw [Int.sub_mul, Int.sub_mul, Int.sub_mul, Int.sub_mul, mr, m1, m2]
  · rw [Int.sub_mul, Int.sub_mul, Int.sub_mul, Int.sub_mul, Int.sub_mul, Int.sub_mul, mr, m1, m2, m3]
  · rw [Int.sub_mul, Int.sub_mul, mr, m0]
end Go.Proofs.YtjmaggfddinbkaaGreatDoor
end
