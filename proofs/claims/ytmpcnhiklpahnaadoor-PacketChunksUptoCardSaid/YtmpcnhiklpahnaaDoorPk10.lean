/- Packets: what the reference's Unpack answers. -/
import Derived.Test.YtmpcnhiklpahnaaDoorPk9w
import Derived.Test.YtmpcnhiklpahnaaDoorPk9n
namespace Go.Proofs.YtmpcnhiklpahnaaDoor
open Go.RowKit

theorem Runpack_any (A : Option Addr) (c : Nat) (l : List Nat) (hb : Bytes l) (hl : l.length ≤ 1152921504606846976) (hc : l.length ≤ c) (w : World) (hr : SlAt w A (u8v l)) :
    Calls Tryd.prog 24 #[.slice A l.length c] w (RetR w (rdOf l) (unpackE pf l)) := by
  have RH : Hid (∀ w, SlAt w A (u8v l) → Calls Tryd.prog 48 #[.slice A l.length c] w fun e w' => e = .returned (.bool (headB l)) ∧ w = w') := Lib.hid fun w hr => Rhead_any A c l hb hl w hr
  by_cases h4 : l.length < 4
  · rw [rdOf_bad (by rw [E_few h4]; decide), E_few h4]
    exact (Runpack_few A c l (decide_eq_true (by omega)) w).mono fun _ _ h => RetR.bad h
  have h4' : 4 ≤ l.length := by omega
  have d4 : decide ((l.length : Int) < 4) = false := decide_eq_false (by omega)
  cases hh : headB l
  · rw [rdOf_bad (by rw [E_head hh]; decide), E_head hh]
    rw [hh] at RH
    exact (Runpack_head A c l d4 RH w hr).mono fun _ _ h => RetR.bad h
  rw [hh] at RH
  obtain ⟨_, _, hS, hM⟩ := headB_parts hh
  have hK := hb.getD 3
  obtain ⟨K, hKK⟩ : ∃ K, K = l.getD 3 0 := ⟨_, rfl⟩
  obtain ⟨S, hSS⟩ : ∃ S, S = l.getD 2 0 := ⟨_, rfl⟩
  have hst := szOf_stp hK
  rw [← hKK] at hK hM hst
  rw [← hSS] at hS
  obtain ⟨ad, rfl, hblk, hcl⟩ := hr (by rw [u8v_len]; omega)
  have at_ : ∀ k, k < l.length → ∀ w, SlAt w (some ad) (u8v l) → w.cell? (ad.add k) = some (.int .u8 ((l.getD k 0 : Nat) : Int)) := fun k hk w hr => by
    obtain ⟨ad', e', _, hc⟩ := hr.at hk
    obtain rfl := Option.some.inj e'; exact hc
  have h3 : ∀ w, SlAt w (some ad) (u8v l) → w.cell? ⟨ad.block, ad.off + 3, none⟩ = some (.int .u8 (K : Int)) := fun w hr => by rw [← add_plain' ad (by decide), hKK]; exact at_ 3 (by omega) w hr
  have RS : Hid (∀ w, Calls Tryd.prog 49 #[.int .u8 (K : Int)] w fun e w' => e = .returned (.int .i64 (szOf K : Int)) ∧ w = w') := Lib.hid fun w => Rsize_any K hK w
  by_cases hn : l.length = szOf K
  case neg =>
    rw [rdOf_bad (by rw [E_long (by rw [← hKK]; exact hn)]; decide), E_long (by rw [← hKK]; exact hn)]
    exact (Runpack_long ad c l.length K l d4 (by omega) _ (ne_of hn) RH RS h3 w hr).mono fun _ _ h => RetR.bad h
  obtain ⟨n, hnn⟩ : ∃ n, n = K % 128 := ⟨_, rfl⟩
  rw [← hnn] at hM hst
  obtain ⟨wide, hw⟩ : ∃ b, b = decide (128 ≤ K) := ⟨_, rfl⟩
  rw [← hw] at hst
  have hsn : stp wide * n ≤ 48 := by unfold stp; split <;> omega
  obtain ⟨m, hm⟩ : ∃ m, l.length = m + 4 := ⟨l.length - 4, by omega⟩
  have hmn : m = 12 + stp wide * n := by omega
  have hE := E_rest h4' hh (by rw [← hKK]; exact hn)
  have hwB : wideB l = wide := by unfold wideB; rw [← hKK, hw]
  have hlen : l.length = 16 + stp wide * n := hn.trans hst
  have hd12 : (l.drop 12).length = stp wide * n + 4 := by rw [List.length_drop, hlen]; generalize stp wide * n = z; omega
  have hval : valsB pf l = rdVals pf wide n ((l.drop 12).take (stp wide * n)) := by
    rw [rdVals_take]; unfold valsB; rw [hwB, ← hKK, ← hnn]
  have hrd : readB pf l = ⟨S, leVal ((l.drop 4).take 4), leVal ((l.drop 8).take 4), rdVals pf wide n ((l.drop 12).take (stp wide * n))⟩ := by unfold readB; rw [hval, ← hSS]
  rw [hval, hwB, hm, Nat.add_sub_cancel] at hE
  have hG : leVal ((l.drop m).take 4) = leVal (l.drop m) := by rw [List.take_of_length_le (by rw [List.length_drop]; omega)]
  have GT : Hid (∀ w, SlAt w (some ad) (u8v l) → Calls Tryd.prog 50 #[.slice (some (ad.add m)) 4 (c - m)] w fun e w' => e = .returned (.int .u64 (leVal (l.drop m) : Int)) ∧ w = w') := Lib.hid fun w hr => by
    rw [← hG]; exact Rtake_at ad c m 4 l hb (by decide) (by omega) _ w hr
  have SM : Hid (∀ w, SlAt w (some ad) (u8v l) → Calls Tryd.prog 20 #[.slice (some ad) m c] w fun e w' => e = .returned (.int .u32 (crcOf (l.take m) : Int)) ∧ w = w') := Lib.hid fun w hr => by
    have h1 : SlAt w (some ad) (u8v (l.take m)) := by have := hr.take m; unfold u8v at this ⊢; rwa [← List.map_take] at this
    have h2 := Rsum_any (some ad) c (l.take m) (hb.take m) (by rw [List.length_take]; omega) w h1
    rwa [List.length_take, show min m l.length = m by omega] at h2
  rw [hm] at RH
  rw [← hn, hm] at RS
  have GQ : ∀ k, k + 4 ≤ l.length → k ≠ 0 → Hid (∀ w, SlAt w (some ad) (u8v l) → Calls Tryd.prog 50 #[.slice (some ⟨ad.block, ad.off + k, none⟩) 4 (c - k)] w fun e w' => e = .returned (.int .u64 (leVal ((l.drop k).take 4) : Int)) ∧ w = w') := fun k hk h0 => Lib.hid fun w hr => by
    rw [← add_plain' ad h0]; exact Rtake_at ad c k 4 l hb (by decide) hk _ w hr
  have lt4 : ∀ k, leVal ((l.drop k).take 4) < 4294967296 := fun k => by
    have := leVal_lt ((hb.drop k).take 4)
    refine Nat.lt_of_lt_of_le this (show _ ≤ 2 ^ 32 from Nat.pow_le_pow_right (by decide) (by rw [List.length_take]; omega))
  have hm1 : 12 ≤ m ∧ m ≤ 60 := by omega
  rw [hm] at hc ⊢
  by_cases hcs : crcOf (l.take m) = leVal (l.drop m)
  case neg =>
    rw [if_pos hcs] at hE
    rw [rdOf_bad (by rw [hE]; decide), hE]
    exact (Runpack_sum ad c m K l hm1 hc RH RS h3 _ _ (crcOf_lt (hb.take m)) GT SM (ne_of hcs) w hr).mono fun _ _ h => RetR.bad h
  rw [if_neg (fun h => h hcs)] at hE
  have hs : ((crcOf (l.take m) : Int) != (leVal (l.drop m) : Int)) = false := eq_of' hcs
  have h2 : ∀ w, SlAt w (some ad) (u8v l) → w.cell? ⟨ad.block, ad.off + 2, none⟩ = some (.int .u8 (S : Int)) := fun w hr => by rw [← add_plain' ad (by decide), hSS]; exact at_ 2 (by omega) w hr
  have hdl : ((l.drop 12).take (stp wide * n)).length = stp wide * n := by rw [List.length_take, hd12]; omega
  have hrr : rdOf l = if unpackE pf l = 0 then ⟨S, leVal ((l.drop 4).take 4), leVal ((l.drop 8).take 4), rdVals pf wide n ((l.drop 12).take (stp wide * n))⟩ else noRd := by unfold rdOf; rw [hrd]
  cases wide
  · have hk : ¬ 128 ≤ K := of_decide_eq_false hw.symm
    exact Runpack_near ad c m K l hm1 hc RH RS h3 _ _ (crcOf_lt (hb.take m)) GT SM S _ _ (by omega) (lt4 4) (lt4 8) (GQ 4 (by omega) (by decide)) (GQ 8 (by omega) (by decide)) h2 n (by omega) hmn (decide_eq_false (by omega)) _ rfl ((hb.drop 12).take _) hdl hb hm _ _ rfl rfl _ hE _ hrr hs w hr
  · have hk : 128 ≤ K := of_decide_eq_true hw.symm
    exact Runpack_wide ad c m K l hm1 hc RH RS h3 _ _ (crcOf_lt (hb.take m)) GT SM S _ _ (by omega) (lt4 4) (lt4 8) (GQ 4 (by omega) (by decide)) (GQ 8 (by omega) (by decide)) h2 n (by omega) hmn (decide_eq_true (by omega)) _ rfl ((hb.drop 12).take _) hdl hb hm _ _ rfl rfl _ hE _ hrr hs w hr
end Go.Proofs.YtmpcnhiklpahnaaDoor
