/- Packets: frames read: what Unpack answers. -/
import Derived.Test.YtmpcnhiklpahnaaDoorPk6w
import Derived.Test.YtmpcnhiklpahnaaDoorPk6n
namespace Go.Proofs.YtmpcnhiklpahnaaDoor
open Go.RowKit

/-- only the values' bytes count -/
theorem rdVals_take (F : Fl) (wide : Bool) : ∀ (n : Nat) (v : List Nat), rdVals F wide n (v.take (stp wide * n)) = rdVals F wide n v
  | 0, _ => rfl
  | n + 1, v => by
    have e : ∀ u, rdVals F wide (n + 1) u = (if wide then leVal (u.take 8) else F.wb (leVal (u.take 4))) :: rdVals F wide n (u.drop (stp wide)) := fun u => by cases wide <;> rfl
    have hs : stp wide ≤ stp wide * (n + 1) := Nat.le_mul_of_pos_right _ (Nat.succ_pos _)
    have ht : ∀ k, k ≤ stp wide * (n + 1) → (v.take (stp wide * (n + 1))).take k = v.take k := fun k hk => by rw [List.take_take, Nat.min_eq_left hk]
    rw [e, e, List.drop_take, show stp wide * (n + 1) - stp wide = stp wide * n by rw [Nat.mul_succ]; omega, rdVals_take F wide n]
    congr 1
    cases wide
    · rw [if_neg (by decide), if_neg (by decide), ht 4 hs]
    · rw [if_pos rfl, if_pos rfl, ht 8 hs]
theorem bits_wide : ∀ K < 256, bits .and .u8 ((K : Nat) : Int) 128 = if 128 ≤ K then 128 else 0 := by decide +kernel
theorem RetR.bad {w : World} {er : Int} {e : Ending} {w' : World} (h : e = .returned (.tuple #[.agg #[.int .i64 0, .int .u32 0, .int .u32 0, .slice none 0 0], .int .i64 er]) ∧ Within w w') : RetR w noRd er e w' :=
  ⟨.slice none 0 0, h.1, OwnF.nil_ _ _, h.2⟩
/-- what Unpack reads -/
def rdOf (b : List Nat) : Rd := if unpackE pf b = 0 then readB pf b else noRd
theorem rdOf_bad {b : List Nat} (h : unpackE pf b ≠ 0) : rdOf b = noRd := if_neg h
theorem E_head {b : List Nat} (h : headB b = false) : unpackE pf b = 211 := by
  unfold unpackE; rw [if_pos (by unfold sizeB; simp [h])]
theorem E_few {b : List Nat} (h : b.length < 4) : unpackE pf b = 211 := by
  unfold unpackE; rw [if_pos (by unfold sizeB; simp; intro h1; omega)]
theorem E_long {b : List Nat} (h : b.length ≠ szOf (b.getD 3 0)) : unpackE pf b = 211 := by
  unfold unpackE; rw [if_pos (by unfold sizeB; simp; intro _ _; simpa using h)]
theorem E_rest {b : List Nat} (h4 : 4 ≤ b.length) (hh : headB b = true) (hl : b.length = szOf (b.getD 3 0)) : unpackE pf b = if crcOf (b.take (b.length - 4)) ≠ leVal (b.drop (b.length - 4)) then 212
    else if (valsB pf b).all finD = false ∨ wideB b = (valsB pf b).all isSD then 211 else 0 := by
  unfold unpackE
  rw [if_neg (by unfold sizeB; rw [hh, decide_eq_true h4, decide_eq_true hl]; decide)]; rfl

theorem Unpack_any (A : Option Addr) (c : Nat) (l : List Nat) (hb : Bytes l) (hl : l.length ≤ 1152921504606846976) (hc : l.length ≤ c) (w : World) (hT : FmS w) (hr : SlAt w A (u8v l)) :
    Calls Tryd.prog 23 #[.slice A l.length c] w (RetR w (rdOf l) (unpackE pf l)) := by
  have SZ : Hid (∀ w, SlAt w A (u8v l) → Calls Tryd.prog 44 #[.slice A l.length c] w fun e w' => e = .returned (.tuple #[.int .i64 (szV l), .bool (headB l)]) ∧ w = w') := Lib.hid fun w hr => size_any A c l hb hl w hr
  cases hh : headB l
  · rw [rdOf_bad (by rw [E_head hh]; decide), E_head hh]
    rw [hh] at SZ
    exact (Unpack_head A c l _ SZ w hr).mono fun _ _ h => RetR.bad h
  rw [hh] at SZ
  by_cases h4 : l.length < 4
  · rw [rdOf_bad (by rw [E_few h4]; decide), E_few h4]
    exact (Unpack_few A c l _ h4 SZ w hr).mono fun _ _ h => RetR.bad h
  have h4' : 4 ≤ l.length := by omega
  have hsz : szV l = (szOf (l.getD 3 0) : Int) := by unfold szV; rw [hh, if_neg (by decide), if_neg (by omega)]
  by_cases hn : l.length = szOf (l.getD 3 0)
  case neg =>
    rw [rdOf_bad (by rw [E_long hn]; decide), E_long hn]
    exact (Unpack_long A c l _ h4' hl (by rw [hsz]; exact ne_of hn) SZ w hr).mono fun _ _ h => RetR.bad h
  obtain ⟨_, _, hS, hM⟩ := headB_parts hh
  have hK := hb.getD 3
  obtain ⟨K, hKK⟩ : ∃ K, K = l.getD 3 0 := ⟨_, rfl⟩
  obtain ⟨S, hSS⟩ : ∃ S, S = l.getD 2 0 := ⟨_, rfl⟩
  have hst := szOf_stp hK
  rw [← hKK] at hK hM hn hsz hst
  rw [← hSS] at hS
  obtain ⟨n, hnn⟩ : ∃ n, n = K % 128 := ⟨_, rfl⟩
  rw [← hnn] at hM hst
  obtain ⟨wide, hw⟩ : ∃ b, b = decide (128 ≤ K) := ⟨_, rfl⟩
  rw [← hw] at hst
  have hsn : stp wide * n ≤ 48 := by unfold stp; split <;> omega
  obtain ⟨m, hm⟩ : ∃ m, l.length = m + 4 := ⟨l.length - 4, by omega⟩
  have hmn : m = 12 + stp wide * n := by omega
  obtain ⟨ad, rfl, hblk, hcl⟩ := hr (by rw [u8v_len]; omega)
  have at_ : ∀ k, k < l.length → ∀ w, SlAt w (some ad) (u8v l) → w.cell? (ad.add k) = some (.int .u8 ((l.getD k 0 : Nat) : Int)) := fun k hk w hr => by
    obtain ⟨ad', e', _, hc⟩ := hr.at hk
    obtain rfl := Option.some.inj e'; exact hc
  have hE := E_rest h4' hh (by rw [← hKK]; exact hn)
  have hwB : wideB l = wide := by unfold wideB; rw [← hKK, hw]
  have hlen : l.length = 16 + stp wide * n := hn.trans hst
  have hd12 : (l.drop 12).length = stp wide * n + 4 := by rw [List.length_drop, hlen]; generalize stp wide * n = z; omega
  have hval : valsB pf l = rdVals pf wide n ((l.drop 12).take (stp wide * n)) := by
    rw [rdVals_take]; unfold valsB; rw [hwB, ← hKK, ← hnn]
  have hrd : readB pf l = ⟨S, leVal ((l.drop 4).take 4), leVal ((l.drop 8).take 4), rdVals pf wide n ((l.drop 12).take (stp wide * n))⟩ := by unfold readB; rw [hval, ← hSS]
  rw [hval, hwB, hm, Nat.add_sub_cancel] at hE
  have hG : leVal ((l.drop m).take 4) = leVal (l.drop m) := by rw [List.take_of_length_le (by rw [List.length_drop]; omega)]
  have GT : Hid (∀ w, SlAt w (some ad) (u8v l) → Calls Tryd.prog 45 #[.slice (some (ad.add m)) 4 (c - m)] w fun e w' => e = .returned (.int .u64 (leVal (l.drop m) : Int)) ∧ w = w') := Lib.hid fun w hr => by
    rw [← hG]; exact get_at ad c m 4 l hb (by decide) (by omega) _ w hr
  have SM : Hid (∀ w, SlAt w (some ad) (u8v l) → Calls Tryd.prog 19 #[.slice (some ad) m c] w fun e w' => e = .returned (.int .u32 (crcOf (l.take m) : Int)) ∧ w = w') := Lib.hid fun w hr => by
    have h1 : SlAt w (some ad) (u8v (l.take m)) := by have := hr.take m; unfold u8v at this ⊢; rwa [← List.map_take] at this
    have h2 := sum_any (some ad) c (l.take m) (hb.take m) (by rw [List.length_take]; omega) w h1
    rwa [List.length_take, show min m l.length = m by omega] at h2
  have SZ2 : Hid (∀ w, SlAt w (some ad) (u8v l) → Calls Tryd.prog 44 #[.slice (some ad) (m + 4) c] w fun e w' => e = .returned (.tuple #[.int .i64 ((m + 4 : Nat) : Int), .bool true]) ∧ w = w') := by
    rw [hsz, ← hn, hm] at SZ; exact SZ
  have GQ : ∀ k, k + 4 ≤ l.length → k ≠ 0 → Hid (∀ w, SlAt w (some ad) (u8v l) → Calls Tryd.prog 45 #[.slice (some ⟨ad.block, ad.off + k, none⟩) 4 (c - k)] w fun e w' => e = .returned (.int .u64 (leVal ((l.drop k).take 4) : Int)) ∧ w = w') := fun k hk h0 => Lib.hid fun w hr => by
    rw [← add_plain' ad h0]; exact get_at ad c k 4 l hb (by decide) hk _ w hr
  have lt4 : ∀ k, leVal ((l.drop k).take 4) < 4294967296 := fun k => by
    have := leVal_lt ((hb.drop k).take 4)
    refine Nat.lt_of_lt_of_le this (show _ ≤ 2 ^ 32 from Nat.pow_le_pow_right (by decide) (by rw [List.length_take]; omega))
  have hm1 : 12 ≤ m ∧ m ≤ 60 := by omega
  rw [hm] at hc ⊢
  by_cases hcs : crcOf (l.take m) = leVal (l.drop m)
  case neg =>
    rw [if_pos hcs] at hE
    rw [rdOf_bad (by rw [hE]; decide), hE]
    exact (Unpack_sum ad c m l hm1 hc SZ2 _ _ (crcOf_lt (hb.take m)) GT SM (ne_of (Ne.symm hcs)) w hr).mono fun _ _ h => RetR.bad h
  rw [if_neg (fun h => h hcs)] at hE
  have hs : ((leVal (l.drop m) : Int) != (crcOf (l.take m) : Int)) = false := eq_of' hcs.symm
  have h2 : ∀ w, SlAt w (some ad) (u8v l) → w.cell? ⟨ad.block, ad.off + 2, none⟩ = some (.int .u8 (S : Int)) := fun w hr => by rw [← add_plain' ad (by decide), hSS]; exact at_ 2 (by omega) w hr
  have h3 : ∀ w, SlAt w (some ad) (u8v l) → w.cell? ⟨ad.block, ad.off + 3, none⟩ = some (.int .u8 (K : Int)) := fun w hr => by rw [← add_plain' ad (by decide), hKK]; exact at_ 3 (by omega) w hr
  have hdl : ((l.drop 12).take (stp wide * n)).length = stp wide * n := by rw [List.length_take, hd12]; omega
  have hbK := bits_wide K hK
  have hrr : rdOf l = if unpackE pf l = 0 then ⟨S, leVal ((l.drop 4).take 4), leVal ((l.drop 8).take 4), rdVals pf wide n ((l.drop 12).take (stp wide * n))⟩ else noRd := by unfold rdOf; rw [hrd]
  cases wide
  · have hk : ¬ 128 ≤ K := of_decide_eq_false hw.symm
    rw [if_neg hk] at hbK
    exact Unpack_near ad c m l hm1 hc SZ2 _ _ (crcOf_lt (hb.take m)) GT SM S _ _ (by omega) (lt4 4) (lt4 8) (GQ 4 (by omega) (by decide)) (GQ 8 (by omega) (by decide)) h2 n K (by omega) hmn hbK h3 _ rfl ((hb.drop 12).take _) hdl _ _ rfl rfl _ hE _ hrr hs w hT hr
  · have hk : 128 ≤ K := of_decide_eq_true hw.symm
    rw [if_pos hk] at hbK
    exact Unpack_wide ad c m l hm1 hc SZ2 _ _ (crcOf_lt (hb.take m)) GT SM S _ _ (by omega) (lt4 4) (lt4 8) (GQ 4 (by omega) (by decide)) (GQ 8 (by omega) (by decide)) h2 n K (by omega) hmn hbK h3 _ rfl ((hb.drop 12).take _) hdl _ _ rfl rfl _ hE _ hrr hs w hT hr
end Go.Proofs.YtmpcnhiklpahnaaDoor
