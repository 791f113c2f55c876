/- Frames there and back; frames in a stream: plain. -/
import Derived.Test.YtmpcnhiklpahnaaDoorPkt
namespace Go.Proofs.YtmpcnhiklpahnaaDoor
variable {F : Fl}

theorem leVal_leBytes {k x : Nat} (h : x < 256 ^ k) : leVal (leBytes k x) = x := by rw [leVal_bytes, Nat.mod_eq_of_lt h]
theorem leBytes_leVal {k : Nat} {l : List Nat} (h : Bytes l) (hk : l.length = k) : leBytes k (leVal l) = l := by subst hk; exact leBytes_val h
def stp (wide : Bool) : Nat := if wide then 8 else 4
theorem bodyV_cons (wide : Bool) (x : Nat) (l : List Nat) : bodyV F wide (x :: l) = (if wide then leBytes 8 x else leBytes 4 (F.nb x)) ++ bodyV F wide l := by
  unfold bodyV; rw [List.flatMap_cons]
theorem val_len (wide : Bool) (x : Nat) : (if wide then leBytes 8 x else leBytes 4 (F.nb x)).length = stp wide := by
  unfold stp; cases wide <;> exact leBytes_len _ _
theorem bodyV_len (wide : Bool) : ∀ l : List Nat, (bodyV F wide l).length = stp wide * l.length
  | [] => rfl
  | x :: l => by rw [bodyV_cons, List.length_append, val_len, bodyV_len wide l, List.length_cons, Nat.mul_succ, Nat.add_comm]
theorem bodyV_bytes (wide : Bool) : ∀ l : List Nat, Bytes (bodyV F wide l)
  | [] => fun c hc => by cases hc
  | x :: l => by
    rw [bodyV_cons]
    exact Bytes.append (by cases wide <;> exact leBytes_bytes _ _) (bodyV_bytes wide l)
/-- values read as they were laid -/
theorem rdVals_body (hF : F.Ok) (wide : Bool) : ∀ (l : List Nat) (tl : List Nat), (∀ x ∈ l, x < 18446744073709551616) → (wide = false → ∀ x ∈ l, F.fin x = true ∧ F.isS x = true) → rdVals F wide l.length (bodyV F wide l ++ tl) = l
  | [], _, _, _ => rfl
  | x :: l, tl, h1, h2 => by
    have ih := rdVals_body hF wide l tl (fun y hy => h1 y (by simp [hy])) (fun hw y hy => h2 hw y (by simp [hy]))
    rw [bodyV_cons, List.append_assoc]
    show _ :: rdVals F wide l.length _ = _
    congr 1
    · cases wide with
      | false =>
        have hx := hF.to x (h1 x (by simp)) (h2 rfl x (by simp)).1 (h2 rfl x (by simp)).2
        simp only [Bool.false_eq_true, if_false]
        rw [List.take_append_of_le_length (by rw [leBytes_len]; exact Nat.le_refl _), List.take_of_length_le (by rw [leBytes_len]; exact Nat.le_refl _), leVal_leBytes (by have := hx.1; omega), hx.2]
      | true =>
        simp only [if_true]
        rw [List.take_append_of_le_length (by rw [leBytes_len]; exact Nat.le_refl _), List.take_of_length_le (by rw [leBytes_len]; exact Nat.le_refl _), leVal_leBytes (by have := h1 x (by simp); omega)]
    · cases wide with
      | false =>
        simp only [Bool.false_eq_true, if_false] at ih ⊢
        rw [List.drop_append_of_le_length (by rw [leBytes_len]; exact Nat.le_refl _), List.drop_of_length_le (by rw [leBytes_len]; exact Nat.le_refl _), List.nil_append]; exact ih
      | true =>
        simp only [if_true] at ih ⊢
        rw [List.drop_append_of_le_length (by rw [leBytes_len]; exact Nat.le_refl _), List.drop_of_length_le (by rw [leBytes_len]; exact Nat.le_refl _), List.nil_append]; exact ih
/-- and laid as they were read -/
theorem body_rdVals (hF : F.Ok) (wide : Bool) : ∀ (k : Nat) (v : List Nat), Bytes v → stp wide * k ≤ v.length → (wide = false → (rdVals F wide k v).all F.fin = true) → bodyV F wide (rdVals F wide k v) = v.take (stp wide * k)
  | 0, v, _, _, _ => by rw [Nat.mul_zero, List.take_zero]; rfl
  | k + 1, v, hb, hl, hf => by
    rw [Nat.mul_succ] at hl
    have hst : (if wide then 8 else 4) = stp wide := rfl
    have e : rdVals F wide (k + 1) v = (if wide then leVal (v.take 8) else F.wb (leVal (v.take 4))) :: rdVals F wide k (v.drop (stp wide)) := rfl
    rw [e] at hf ⊢
    rw [bodyV_cons, body_rdVals hF wide k _ (hb.drop _) (by rw [List.length_drop]; omega) (fun hw => by have := hf hw; rw [List.all_cons, Bool.and_eq_true] at this; exact this.2)]
    have h1 : (if wide then leBytes 8 (if wide then leVal (v.take 8) else F.wb (leVal (v.take 4))) else leBytes 4 (F.nb (if wide then leVal (v.take 8) else F.wb (leVal (v.take 4))))) = v.take (stp wide) := by
      cases wide with
      | false =>
        simp only [Bool.false_eq_true, if_false]
        have hst4 : stp false = 4 := rfl
        rw [hst4] at hl ⊢
        have hv := leVal_lt (hb.take 4)
        rw [List.length_take, show min 4 v.length = 4 by omega] at hv
        have hfin := hf rfl
        rw [List.all_cons, Bool.and_eq_true] at hfin
        rw [(hF.back _ hv hfin.1).2]
        exact leBytes_leVal (hb.take 4) (by rw [List.length_take]; omega)
      | true =>
        simp only [if_true]
        have hst8 : stp true = 8 := rfl
        rw [hst8] at hl ⊢
        exact leBytes_leVal (hb.take 8) (by rw [List.length_take]; omega)
    rw [h1, Nat.mul_succ, Nat.add_comm (stp wide * k), List.take_add]
theorem rdVals_len (wide : Bool) : ∀ (k : Nat) (v : List Nat), (rdVals F wide k v).length = k
  | 0, _ => rfl
  | k + 1, v => by show _ + 1 = _; rw [rdVals_len wide k]
theorem rdVals_lt (hF : F.Ok) (wide : Bool) : ∀ (k : Nat) (v : List Nat), Bytes v → ∀ x ∈ rdVals F wide k v, x < 18446744073709551616
  | 0, _, _, _, hx => by cases hx
  | k + 1, v, hb, x, hx => by
    rcases List.mem_cons.1 hx with rfl | h
    · have key : ∀ n, leVal (v.take n) < 2 ^ (8 * n) := fun n => Nat.lt_of_lt_of_le (leVal_lt (hb.take n)) (Nat.pow_le_pow_right (by decide) (by rw [List.length_take]; omega))
      cases wide with
      | false => exact hF.lt _ (key 4)
      | true => exact key 8
    · exact rdVals_lt hF wide k _ (hb.drop _) x h

theorem rdVals_snoc (wide : Bool) : ∀ (k : Nat) (v : List Nat), rdVals F wide (k + 1) v = rdVals F wide k v ++ [if wide then leVal ((v.drop (stp wide * k)).take 8) else F.wb (leVal ((v.drop (stp wide * k)).take 4))]
  | 0, v => by rw [Nat.mul_zero, List.drop_zero]; rfl
  | k + 1, v => by
    have e : rdVals F wide (k + 1 + 1) v = (if wide then leVal (v.take 8) else F.wb (leVal (v.take 4))) :: rdVals F wide (k + 1) (v.drop (stp wide)) := rfl
    rw [e, rdVals_snoc wide k, List.drop_drop, Nat.mul_succ, Nat.add_comm (stp wide)]; rfl
/-- a reading that may be -/
structure Rd.Ok (F : Fl) (r : Rd) : Prop where
  sensor : r.sensor < 64
  seq : r.seq < 4294967296
  stamp : r.stamp < 4294967296
  len : r.vals.length ≤ 6
  lt : ∀ x ∈ r.vals, x < 18446744073709551616
  fin : r.vals.all F.fin = true

theorem headV_len (w : Bool) (s n q t : Nat) : (headV w s n q t).length = 12 := by
  unfold headV; simp only [List.length_append, leBytes_len, List.length_cons, List.length_nil]
theorem withSum_len (b : List Nat) : (withSum b).length = b.length + 4 := by unfold withSum; rw [List.length_append, leBytes_len]
theorem packV_len (r : Rd) : (packV F r).length = 16 + stp (!r.vals.all F.isS) * r.vals.length := by
  unfold packV; rw [withSum_len, List.length_append, headV_len, bodyV_len]; omega
theorem packV_bytes {r : Rd} (h : r.Ok F) : Bytes (packV F r) := by
  have h1 := h.sensor
  have h2 := h.len
  unfold packV withSum headV
  refine Bytes.append (Bytes.append (Bytes.append (Bytes.append ?_ (leBytes_bytes _ _)) (leBytes_bytes _ _)) (bodyV_bytes _ _)) (leBytes_bytes _ _)
  intro c hc
  simp only [List.mem_cons, List.not_mem_nil, or_false] at hc
  rcases hc with rfl | rfl | rfl | rfl
  · decide
  · decide
  · omega
  · split <;> omega
theorem packV_split (r : Rd) : ∃ tl, packV F r = 181 :: 98 :: r.sensor :: (if (!r.vals.all F.isS) then r.vals.length + 128 else r.vals.length) :: tl := ⟨_, rfl⟩
theorem packV_getD (r : Rd) : (packV F r).getD 0 181 = 181 ∧ (packV F r).getD 1 98 = 98 ∧ (packV F r).getD 2 0 = r.sensor ∧ (packV F r).getD 3 0 = (if (!r.vals.all F.isS) then r.vals.length + 128 else r.vals.length) := by
  obtain ⟨tl, h⟩ := packV_split (F := F) r
  rw [h]; exact ⟨rfl, rfl, rfl, rfl⟩
theorem packV_head {r : Rd} (h : r.Ok F) : headB (packV F r) = true := by
  obtain ⟨a, b, c, d⟩ := packV_getD (F := F) r
  have h1 := h.sensor
  have h2 := h.len
  unfold headB
  rw [a, b, c, d]
  simp only [beq_self_eq_true, Bool.true_and, Bool.and_eq_true, decide_eq_true_eq]
  refine ⟨h1, ?_⟩
  split <;> omega
theorem packV_sz {r : Rd} (h : r.Ok F) : (packV F r).length = szOf ((packV F r).getD 3 0) := by
  have h2 := h.len
  rw [packV_len, (packV_getD r).2.2.2]
  unfold szOf stp
  cases r.vals.all F.isS
  · simp only [Bool.not_false, if_true]; rw [if_pos (by omega)]; omega
  · simp only [Bool.not_true, Bool.false_eq_true, if_false]; rw [if_neg (by omega)]
theorem packV_size {r : Rd} (h : r.Ok F) : sizeB (packV F r) = true := by
  unfold sizeB
  rw [packV_head h, ← packV_sz h, packV_len]
  simp only [Bool.and_true, decide_true, decide_eq_true_eq]
  omega
theorem packV_wide {r : Rd} (h : r.Ok F) : wideB (packV F r) = !r.vals.all F.isS ∧ (packV F r).getD 3 0 % 128 = r.vals.length := by
  have h2 := h.len
  unfold wideB
  rw [(packV_getD r).2.2.2]
  cases r.vals.all F.isS
  · simp only [Bool.not_false, if_true]; exact ⟨decide_eq_true (by omega), by omega⟩
  · simp only [Bool.not_true, Bool.false_eq_true, if_false]; exact ⟨decide_eq_false (by omega), by omega⟩
theorem withSum_ok {b : List Nat} (h : Bytes b) : crcOf ((withSum b).take ((withSum b).length - 4)) = leVal ((withSum b).drop ((withSum b).length - 4)) := by
  rw [withSum_len, Nat.add_sub_cancel]
  unfold withSum
  rw [List.take_append_of_le_length (Nat.le_refl _), List.take_of_length_le (Nat.le_refl _), List.drop_append_of_le_length (Nat.le_refl _), List.drop_of_length_le (Nat.le_refl _), List.nil_append, leVal_leBytes (crcOf_lt h)]
theorem pack_core_bytes {r : Rd} (h : r.Ok F) : Bytes (headV (!r.vals.all F.isS) r.sensor r.vals.length r.seq r.stamp ++ bodyV F (!r.vals.all F.isS) r.vals) := by
  have := packV_bytes h
  intro c hc
  exact this c (by unfold packV withSum; exact List.mem_append_left _ hc)
theorem packV_vals (hF : F.Ok) {r : Rd} (h : r.Ok F) : valsB F (packV F r) = r.vals := by
  unfold valsB
  rw [(packV_wide h).1, (packV_wide h).2]
  have e : (packV F r).drop 12 = bodyV F (!r.vals.all F.isS) r.vals ++ leBytes 4 (crcOf (headV (!r.vals.all F.isS) r.sensor r.vals.length r.seq r.stamp ++ bodyV F (!r.vals.all F.isS) r.vals)) := by
    unfold packV withSum
    rw [List.append_assoc, List.drop_append, headV_len, List.drop_of_length_le (by rw [headV_len]; exact Nat.le_refl _)]
    simp
  rw [e]
  refine rdVals_body hF _ _ _ h.lt (fun hw x hx => ⟨List.all_eq_true.1 h.fin x hx, List.all_eq_true.1 (by simpa using hw) x hx⟩)
theorem readB_packV (hF : F.Ok) {r : Rd} (h : r.Ok F) : readB F (packV F r) = r := by
  unfold readB
  rw [packV_vals hF h, (packV_getD r).2.2.1]
  have e4 : ((packV F r).drop 4).take 4 = leBytes 4 r.seq := by
    unfold packV withSum headV
    simp only [List.cons_append, List.nil_append, List.append_assoc, List.drop_succ_cons, List.drop_zero]
    rw [List.take_append_of_le_length (by rw [leBytes_len]; exact Nat.le_refl _), List.take_of_length_le (by rw [leBytes_len]; exact Nat.le_refl _)]
  have e8 : ((packV F r).drop 8).take 4 = leBytes 4 r.stamp := by
    have : (packV F r).drop 8 = ((packV F r).drop 4).drop 4 := by rw [List.drop_drop]
    rw [this]
    unfold packV withSum headV
    simp only [List.cons_append, List.nil_append, List.append_assoc, List.drop_succ_cons, List.drop_zero]
    rw [List.drop_append, leBytes_len, List.drop_of_length_le (by rw [leBytes_len]; exact Nat.le_refl _), Nat.sub_self, List.drop_zero, List.nil_append,
      List.take_append_of_le_length (by rw [leBytes_len]; exact Nat.le_refl _), List.take_of_length_le (by rw [leBytes_len]; exact Nat.le_refl _)]
  rw [e4, e8, leVal_leBytes h.seq, leVal_leBytes h.stamp]
/-- a reading that may be is read as it was -/
theorem unpack_pack (hF : F.Ok) {r : Rd} (h : r.Ok F) : unpackE F (packV F r) = 0 := by
  unfold unpackE
  rw [if_neg (by rw [packV_size h]; decide), if_neg (by
    have := withSum_ok (pack_core_bytes h)
    exact fun hn => hn this), packV_vals hF h, (packV_wide h).1, h.fin, if_neg]
  rintro (h1 | h1)
  · cases h1
  · cases hS : r.vals.all F.isS <;> rw [hS] at h1 <;> cases h1

theorem unpackE_parts {b : List Nat} (h : unpackE F b = 0) : sizeB b = true ∧ crcOf (b.take (b.length - 4)) = leVal (b.drop (b.length - 4)) ∧ (valsB F b).all F.fin = true ∧ wideB b = !(valsB F b).all F.isS := by
  unfold unpackE at h
  by_cases h1 : sizeB b = false
  · rw [if_pos h1] at h; cases h
  rw [if_neg h1] at h
  by_cases h2 : crcOf (b.take (b.length - 4)) ≠ leVal (b.drop (b.length - 4))
  · rw [if_pos h2] at h; cases h
  rw [if_neg h2] at h
  by_cases h3 : (valsB F b).all F.fin = false ∨ wideB b = (valsB F b).all F.isS
  · rw [if_pos h3] at h; cases h
  refine ⟨by simpa using h1, by simpa using h2, ?_, ?_⟩
  · cases hf : (valsB F b).all F.fin
    · exact absurd (.inl hf) h3
    · rfl
  · cases hw : wideB b <;> cases hS : (valsB F b).all F.isS
    · exact absurd (.inr (by rw [hw, hS])) h3
    · rfl
    · rfl
    · exact absurd (.inr (by rw [hw, hS])) h3
theorem sizeB_parts {b : List Nat} (h : sizeB b = true) : 4 ≤ b.length ∧ headB b = true ∧ b.length = szOf (b.getD 3 0) := by
  unfold sizeB at h
  simp only [Bool.and_eq_true, decide_eq_true_eq] at h
  exact ⟨h.1.1, h.1.2, h.2⟩
theorem headB_parts {b : List Nat} (h : headB b = true) : b.getD 0 181 = 181 ∧ b.getD 1 98 = 98 ∧ b.getD 2 0 < 64 ∧ b.getD 3 0 % 128 ≤ 6 := by
  unfold headB at h
  simp only [Bool.and_eq_true, beq_iff_eq, decide_eq_true_eq] at h
  exact ⟨h.1.1.1, h.1.1.2, h.1.2, h.2⟩
theorem Bytes.getD {b : List Nat} (h : Bytes b) (i : Nat) : b.getD i 0 < 256 := by
  rcases Nat.lt_or_ge i b.length with hi | hi
  · rw [List.getD, List.getElem?_eq_getElem hi]; exact h _ (List.getElem_mem hi)
  · rw [getD_end hi]; decide
theorem szOf_stp {c : Nat} (hc : c < 256) : szOf c = 16 + stp (decide (128 ≤ c)) * (c % 128) := by
  unfold szOf stp
  by_cases h : 128 ≤ c
  · rw [if_pos h, if_pos (decide_eq_true h)]; omega
  · rw [if_neg h, if_neg (by rw [decide_eq_false h]; decide)]; omega
/-- what is read of a frame may be, and its frame is that one -/
theorem readB_ok (hF : F.Ok) {b : List Nat} (hb : Bytes b) (h : unpackE F b = 0) : (readB F b).Ok F := by
  obtain ⟨h1, h2, h3, h4⟩ := unpackE_parts h
  obtain ⟨s1, s2, s3⟩ := sizeB_parts h1
  obtain ⟨p1, p2, p3, p4⟩ := headB_parts s2
  have key : ∀ k, leVal ((b.drop k).take 4) < 4294967296 := fun k => by
    exact Nat.lt_of_lt_of_le (leVal_lt ((hb.drop k).take 4)) (by rw [show (4294967296 : Nat) = 2 ^ 32 from rfl]; exact Nat.pow_le_pow_right (by decide) (by rw [List.length_take]; omega))
  exact ⟨p3, key 4, key 8, by show (rdVals F _ _ _).length ≤ 6; rw [rdVals_len]; exact p4, rdVals_lt hF _ _ _ (hb.drop 12), h3⟩
theorem packV_readB (hF : F.Ok) {b : List Nat} (hb : Bytes b) (h : unpackE F b = 0) : packV F (readB F b) = b := by
  obtain ⟨h1, h2, h3, h4⟩ := unpackE_parts h
  obtain ⟨s1, s2, s3⟩ := sizeB_parts h1
  obtain ⟨p1, p2, p3, p4⟩ := headB_parts s2
  have hc := hb.getD 3
  have hsz := szOf_stp hc
  have hw : wideB b = decide (128 ≤ b.getD 3 0) := rfl
  rw [← hw] at hsz
  have hn : (valsB F b).length = b.getD 3 0 % 128 := rdVals_len _ _ _
  have hbody : bodyV F (wideB b) (valsB F b) = (b.drop 12).take (stp (wideB b) * (b.getD 3 0 % 128)) := body_rdVals hF _ _ _ (hb.drop 12) (by rw [List.length_drop]; omega) (fun _ => h3)
  have hcore : headV (wideB b) (b.getD 2 0) (valsB F b).length (leVal ((b.drop 4).take 4)) (leVal ((b.drop 8).take 4)) ++ bodyV F (wideB b) (valsB F b) = b.take (b.length - 4) := by
    have h12 : headV (wideB b) (b.getD 2 0) (valsB F b).length (leVal ((b.drop 4).take 4)) (leVal ((b.drop 8).take 4)) = b.take 12 := by
      unfold headV
      rw [leBytes_leVal ((hb.drop 4).take 4) (by rw [List.length_take, List.length_drop]; have := szOf_ge (b.getD 3 0); omega), leBytes_leVal ((hb.drop 8).take 4) (by rw [List.length_take, List.length_drop]; have := szOf_ge (b.getD 3 0); omega)]
      have h3' : (if wideB b then (valsB F b).length + 128 else (valsB F b).length) = b.getD 3 0 := by
        rw [hn]
        by_cases hg : 128 ≤ b.getD 3 0
        · rw [if_pos (by rw [hw, decide_eq_true hg])]; omega
        · rw [if_neg (by rw [hw, decide_eq_false hg]; decide)]; omega
      rw [h3']
      have h16 := szOf_ge (b.getD 3 0)
      have h0' : b.getD 0 181 = b.getD 0 0 := by rw [List.getD, List.getD, List.getElem?_eq_getElem (by omega)]; rfl
      have h1' : b.getD 1 98 = b.getD 1 0 := by rw [List.getD, List.getD, List.getElem?_eq_getElem (by omega)]; rfl
      have e4 : b.take 4 = [181, 98, b.getD 2 0, b.getD 3 0] := by
        rw [← p1, ← p2, h0', h1']
        match b, s1 with
        | a0 :: a1 :: a2 :: a3 :: l, _ => rfl
      rw [← e4, show 12 = 4 + 4 + 4 from rfl, List.take_add, List.take_add]
    rw [h12, hbody, ← List.take_add]
    congr 1
    omega
  have e : packV F (readB F b) = withSum (headV (wideB b) (b.getD 2 0) (valsB F b).length (leVal ((b.drop 4).take 4)) (leVal ((b.drop 8).take 4)) ++ bodyV F (wideB b) (valsB F b)) := by
    rw [h4]; rfl
  rw [e, hcore]
  unfold withSum
  rw [h2, leBytes_leVal (hb.drop _) (by rw [List.length_drop]; omega), List.take_append_drop]

/-! in a stream -/
theorem headB_take {b : List Nat} (h : headB b = true) (k : Nat) : headB (b.take k) = true := by
  cases hb : headB (b.take k)
  · have := headB_more (b.drop k) hb
    rw [List.take_append_drop, h] at this
    cases this
  · rfl
/-- a beginning of a frame is kept -/
theorem feed_begun {r : Rd} (h : r.Ok F) {k : Nat} (hk : k < (packV F r).length) : feedV F ((packV F r).take k) = ([], 0, (packV F r).take k) := by
  refine feedV_wait (headB_take (packV_head h) k) ?_
  rw [List.length_take]
  rcases Nat.lt_or_ge k 4 with h4 | h4
  · left; omega
  · right
    have : ((packV F r).take k).getD 3 0 = (packV F r).getD 3 0 := by
      conv => rhs; rw [← List.take_append_drop k (packV F r)]
      rw [getD_app (by rw [List.length_take]; omega)]
    rw [this, ← packV_sz h]; omega
/-- a frame is told -/
theorem feed_pack (hF : F.Ok) {r : Rd} (h : r.Ok F) : feedV F (packV F r) = ([r], 0, []) := by
  have hs := packV_sz h
  have hl := packV_len (F := F) r
  rw [feedV_frame (packV_head h) (by rw [← hs]; omega) (by rw [← hs, List.take_of_length_le (Nat.le_refl _)]; exact unpack_pack hF h), ← hs, List.take_of_length_le (Nat.le_refl _), List.drop_of_length_le (Nat.le_refl _), feedV_nil, readB_packV hF h]
/-- bytes without a frame's first one are dropped -/
theorem feed_quiet : ∀ (l : List Nat), (∀ c ∈ l, c ≠ 181) → feedV F l = ([], l.length, [])
  | [], _ => feedV_nil
  | c :: l, h => by
    have hb : headB (c :: l) = false := by
      unfold headB
      have : ((c :: l).getD 0 181 == 181) = false := by rw [beq_eq_false_iff_ne]; exact h c (by simp)
      rw [this]; rfl
    rw [feedV_bad (by simp) hb]
    show ((feedV F l).1, (feedV F l).2.1 + 1, (feedV F l).2.2) = _
    rw [feed_quiet l (fun d hd => h d (by simp [hd]))]; rfl
/-- what comes is told, dropped, or kept -/
theorem feed_all (hF : F.Ok) : ∀ (n : Nat) (x : List Nat), x.length ≤ n → Bytes x → (∀ r ∈ (feedV F x).1, r.Ok F) ∧ ((feedV F x).1.map fun r => (packV F r).length).sum + (feedV F x).2.1 + (feedV F x).2.2.length = x.length := by
  intro n
  induction n with
  | zero =>
    intro x hn hx
    obtain rfl := List.eq_nil_of_length_eq_zero (Nat.le_zero.1 hn)
    rw [feedV_nil]; exact ⟨(fun r hr => by cases hr), rfl⟩
  | succ n ih =>
    intro x hn hx
    cases x with
    | nil => rw [feedV_nil]; exact ⟨(fun r hr => by cases hr), rfl⟩
    | cons c l =>
      have hdr : ∀ k, 1 ≤ k → ((c :: l).drop k).length ≤ n := fun k hk => by rw [List.length_drop]; omega
      have one : (∀ r ∈ (feedV F ((c :: l).drop 1)).1, r.Ok F) ∧ ((feedV F ((c :: l).drop 1)).1.map fun r => (packV F r).length).sum + ((feedV F ((c :: l).drop 1)).2.1 + 1) + (feedV F ((c :: l).drop 1)).2.2.length = (c :: l).length := by
        obtain ⟨i1, i2⟩ := ih _ (hdr 1 (Nat.le_refl _)) (hx.drop 1)
        refine ⟨i1, ?_⟩
        rw [List.length_drop] at i2
        have : 1 ≤ (c :: l).length := by simp
        omega
      by_cases hb : headB (c :: l) = false
      · rw [feedV_bad (by simp) hb]; exact one
      have hb : headB (c :: l) = true := by simpa using hb
      by_cases hw : (c :: l).length < 4 ∨ (c :: l).length < szOf ((c :: l).getD 3 0)
      · rw [feedV_wait hb hw]
        exact ⟨(fun r hr => by cases hr), by simp⟩
      have h16 := szOf_ge ((c :: l).getD 3 0)
      by_cases hu : unpackE F ((c :: l).take (szOf ((c :: l).getD 3 0))) = 0
      · rw [feedV_frame hb hw hu]
        obtain ⟨i1, i2⟩ := ih _ (hdr _ (by omega)) (hx.drop (szOf ((c :: l).getD 3 0)))
        have ho := readB_ok hF (hx.take _) hu
        have hp := packV_readB hF (hx.take _) hu
        refine ⟨fun r hr => ?_, ?_⟩
        · rcases List.mem_cons.1 hr with rfl | h
          · exact ho
          · exact i1 r h
        · rw [List.length_drop] at i2
          simp only [List.map_cons, List.sum_cons, hp, List.length_take]
          omega
      · rw [feedV_spoilt hb hw hu]; exact one
end Go.Proofs.YtmpcnhiklpahnaaDoor
