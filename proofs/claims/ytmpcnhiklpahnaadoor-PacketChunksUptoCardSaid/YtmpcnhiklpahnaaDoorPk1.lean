/- Packets' bytes: numbers laid and read, sums: walks. -/
import Derived.Test.YtmpcnhiklpahnaaDoorMem
import Derived.Test.YtmpcnhiklpahnaaDoorCrc
namespace Go.Proofs.YtmpcnhiklpahnaaDoor
open Go.RowKit

set_option maxRecDepth 100000 in
set_option maxHeartbeats 600000 in
theorem put_any (base : Nat) (v : Value) (l : List Nat) (x many : Nat) (hx : x < 18446744073709551616) (hm : many ≤ 8) (hl : l.length + 8 ≤ 140737488355328) (w : World) (hb : base ≤ w.heap.size) (hown : OwnB w base v l) :
    Calls Tryd.prog 35 #[v, .int .u64 (x : Int), .int .i64 (many : Int)] w fun e w' => ∃ v', e = .returned v' ∧ OwnB w' base v' (l ++ leBytes many x) ∧ Below base w w' := by
  have HX := Lib.hid hx; have HL := Lib.hid hl; clear hx hl
  have HO := Lib.hid hown; clear hown
  go_enter Tryd.func35, Tryd.ntmps35
  go_wp2
  go_loopw [0, 1, 8] (fun bv xv iv wr => ∃ k, k ≤ many ∧ iv = .int .i64 (k : Int) ∧ xv = .int .u64 ((x / 256 ^ k : Nat) : Int) ∧ OwnB wr base bv (l ++ leBytes k x) ∧ Below base w wr) (fun _ _ iv _ => many - (intOf iv).toNat)
  case atStart => exact ⟨0, Nat.zero_le _, rfl, by rw [Nat.pow_zero, Nat.div_one], by rw [show leBytes 0 x = [] from rfl, List.append_nil]; exact HO.out, Below.refl _ _⟩
  case round =>
    obtain ⟨k, hk, rfl, rfl, hown, hbl⟩ := hrel
    obtain ⟨L, hL⟩ : ∃ L, L = l ++ leBytes k x := ⟨_, rfl⟩
    have hLl : L.length = l.length + k := by rw [hL, List.length_append, leBytes_len]
    obtain ⟨y, hy⟩ : ∃ y, y = x / 256 ^ k := ⟨_, rfl⟩
    rw [← hL] at hown
    rw [← hy]
    have hy2 : y < 18446744073709551616 := by rw [hy]; exact Nat.lt_of_le_of_lt (Nat.div_le_self _ _) HX.out
    have hbr : base ≤ wr.heap.size := Nat.le_trans hb hbl.size
    by_cases hlt : k < many
    · obtain ⟨z, hz⟩ : ∃ z, z = y % 256 := ⟨_, rfl⟩
      obtain ⟨A, c, rfl, _, _, _⟩ := hown.form
      obtain ⟨v', w', hrun, hown', hbl'⟩ := run_app_byte wr base _ _ z hown (by have := HL.out; omega) hbr
      have c1 : IntKind.u8.wrap (y : Int) = (z : Int) := by rw [IntKind.wrap_u8]; omega
      have c2 : IntKind.u64.wrap ((y : Int) / 256) = (y : Int) / 256 := by rw [IntKind.wrap_u64]; omega
      have RUN := Lib.hid hrun
      have hy3 : y / 256 < 18446744073709551616 := by omega
      have HY := Lib.hid hy; have HY2 := Lib.hid hy2; have HZ := Lib.hid hz; have HLL := Lib.hid hLl; have HLE := Lib.hid hL; clear hy hy2 hz hown hrun hLl hL hy3
      generalize L.length = n at *
      go_wp2_with (at_builtin; refine wpList_append_run rfl (.tmp 10) (.tmp 13) 26 rfl _ _ rfl rfl RUN.out ?_)
      go_roundw
      case rel => 
        refine ⟨k + 1, hlt, by go_num, ?_, ?_, hbl.trans hbl'⟩
        · exact v_int (by rw [Nat.pow_succ, ← Nat.div_div_eq_div_mul, ← HY.out]; omega)
        · rw [leBytes_snoc, ← List.append_assoc, ← HLE.out, ← HY.out, ← HZ.out]; exact hown'
      case measure => simp [intOf]; omega
    · obtain rfl : k = many := by omega
      have HOW := Lib.hid hown; have HLE := Lib.hid hL; clear hL hown hLl hy hy2
      go_wp2
      go_ret
      exact ⟨_, rfl, HLE.out ▸ HOW.out, hbl⟩

set_option maxRecDepth 100000 in
set_option maxHeartbeats 600000 in
theorem Rput_any (base : Nat) (v : Value) (l : List Nat) (x many : Nat) (hx : x < 18446744073709551616) (hm : many ≤ 8) (hl : l.length + 8 ≤ 140737488355328) (w : World) (hb : base ≤ w.heap.size) (hown : OwnB w base v l) :
    Calls Tryd.prog 22 #[v, .int .u64 (x : Int), .int .i64 (many : Int)] w fun e w' => ∃ v', e = .returned v' ∧ OwnB w' base v' (l ++ leBytes many x) ∧ Below base w w' := by
  have HX := Lib.hid hx; have HL := Lib.hid hl; clear hx hl
  have HO := Lib.hid hown; clear hown
  go_enter Tryd.func22, Tryd.ntmps22
  go_wp2
  go_loopw [0, 1, 7] (fun bv xv iv wr => ∃ k, k ≤ many ∧ iv = .int .i64 (k : Int) ∧ xv = .int .u64 ((x / 256 ^ k : Nat) : Int) ∧ OwnB wr base bv (l ++ leBytes k x) ∧ Below base w wr) (fun _ _ iv _ => many - (intOf iv).toNat)
  case atStart => exact ⟨0, Nat.zero_le _, rfl, by rw [Nat.pow_zero, Nat.div_one], by rw [show leBytes 0 x = [] from rfl, List.append_nil]; exact HO.out, Below.refl _ _⟩
  case round =>
    obtain ⟨k, hk, rfl, rfl, hown, hbl⟩ := hrel
    obtain ⟨L, hL⟩ : ∃ L, L = l ++ leBytes k x := ⟨_, rfl⟩
    have hLl : L.length = l.length + k := by rw [hL, List.length_append, leBytes_len]
    obtain ⟨y, hy⟩ : ∃ y, y = x / 256 ^ k := ⟨_, rfl⟩
    rw [← hL] at hown
    rw [← hy]
    have hy2 : y < 18446744073709551616 := by rw [hy]; exact Nat.lt_of_le_of_lt (Nat.div_le_self _ _) HX.out
    have hbr : base ≤ wr.heap.size := Nat.le_trans hb hbl.size
    by_cases hlt : k < many
    · obtain ⟨z, hz⟩ : ∃ z, z = y % 256 := ⟨_, rfl⟩
      obtain ⟨A, c, rfl, _, _, _⟩ := hown.form
      obtain ⟨v', w', hrun, hown', hbl'⟩ := run_app_byte wr base _ _ z hown (by have := HL.out; omega) hbr
      have c1 : IntKind.u8.wrap (y : Int) = (z : Int) := by rw [IntKind.wrap_u8]; omega
      have c2 : IntKind.u64.wrap ((y : Int) / 256) = (y : Int) / 256 := by rw [IntKind.wrap_u64]; omega
      have RUN := Lib.hid hrun
      have hy3 : y / 256 < 18446744073709551616 := by omega
      have HY := Lib.hid hy; have HY2 := Lib.hid hy2; have HZ := Lib.hid hz; have HLL := Lib.hid hLl; have HLE := Lib.hid hL; clear hy hy2 hz hown hrun hLl hL hy3
      generalize L.length = n at *
      go_wp2_with (at_builtin; refine wpList_append_run rfl (.tmp 13) (.tmp 16) 26 rfl _ _ rfl rfl RUN.out ?_)
      go_roundw
      case rel => 
        refine ⟨k + 1, hlt, by go_num, ?_, ?_, hbl.trans hbl'⟩
        · exact v_int (by rw [Nat.pow_succ, ← Nat.div_div_eq_div_mul, ← HY.out]; omega)
        · rw [leBytes_snoc, ← List.append_assoc, ← HLE.out, ← HY.out, ← HZ.out]; exact hown'
      case measure => simp [intOf]; omega
    · obtain rfl : k = many := by omega
      have HOW := Lib.hid hown; have HLE := Lib.hid hL; clear hL hown hLl hy hy2
      go_wp2
      go_ret
      exact ⟨_, rfl, HLE.out ▸ HOW.out, hbl⟩

theorem or_high (x c k : Nat) (hx : x < 2 ^ k) (h : x + c * 2 ^ k < 18446744073709551616) : bits .or .u64 (x : Int) ((c * 2 ^ k : Nat) : Int) = ((x + c * 2 ^ k : Nat) : Int) := by
  rw [u64_or_nat x _ (by omega) (by omega)]
  have e := Nat.two_pow_add_eq_or_of_lt (i := k) (b := x) hx c
  rw [Nat.or_comm, Nat.mul_comm c, ← e, Nat.add_comm]
theorem shl_or (x c k : Nat) (hx : x < 2 ^ k) (h : x + c * 2 ^ k < 18446744073709551616) : bits .or .u64 (x : Int) (IntKind.u64.wrap ((c : Int) * 2 ^ k)) = ((x + c * 2 ^ k : Nat) : Int) := by
  have e : (c : Int) * 2 ^ k = ((c * 2 ^ k : Nat) : Int) := by simp
  have e2 : IntKind.u64.wrap ((c * 2 ^ k : Nat) : Int) = ((c * 2 ^ k : Nat) : Int) := by
    rw [IntKind.wrap_u64]
    generalize c * 2 ^ k = z at *
    omega
  rw [e, e2]; exact or_high x c k hx h
theorem leVal_snoc : ∀ (l : List Nat) (c : Nat), leVal (l ++ [c]) = leVal l + c * 2 ^ (8 * l.length)
  | [], c => by show c + 256 * 0 = 0 + c * 2 ^ 0; omega
  | d :: l, c => by
    show d + 256 * leVal (l ++ [c]) = d + 256 * leVal l + c * 2 ^ (8 * (l.length + 1))
    rw [leVal_snoc l c, Nat.mul_succ, Nat.pow_add, Nat.mul_add, ← Nat.mul_assoc c, Nat.mul_comm _ (2 ^ 8), show (2 : Nat) ^ 8 = 256 from rfl, Nat.add_assoc]
theorem take_snoc_getD {l : List Nat} {k : Nat} (h : k < l.length) : l.take (k + 1) = l.take k ++ [l.getD k 0] := by
  rw [List.take_add_one, List.getElem?_eq_getElem h]; simp [List.getD, List.getElem?_eq_getElem h]
theorem Bytes.at {l : List Nat} (h : Bytes l) {k : Nat} (hk : k < l.length) : l.getD k 0 < 256 := by
  rw [List.getD, List.getElem?_eq_getElem hk]; exact h _ (List.getElem_mem hk)

set_option maxRecDepth 100000 in
set_option maxHeartbeats 600000 in
theorem get_any (A : Option Addr) (c : Nat) (l : List Nat) (hb : Bytes l) (hl : l.length ≤ 8) (w : World) (hr : SlAt w A (u8v l)) : Calls Tryd.prog 45 #[.slice A l.length c] w fun e w' => e = .returned (.int .u64 (leVal l : Int)) ∧ w = w' := by
  have HB := Lib.hid hb; have HR := Lib.hid hr; clear hb hr
  go_enter Tryd.func45, Tryd.ntmps45
  go_wp2
  go_loop [3, 8] (fun xv iv => ∃ k, k ≤ l.length ∧ iv = .int .i64 (k : Int) ∧ xv = .int .u64 (leVal (l.take k) : Int)) (fun _ iv => l.length - (intOf iv).toNat)
  case atStart => exact ⟨0, Nat.zero_le _, rfl, rfl⟩
  case round =>
    obtain ⟨k, hk, rfl, rfl⟩ := hrel
    by_cases hlt : k < l.length
    · obtain ⟨ad, rfl, hblk, hc⟩ := HR.out.at hlt
      obtain ⟨y, hy⟩ : ∃ y, y = l.getD k 0 := ⟨_, rfl⟩
      obtain ⟨x, hx⟩ : ∃ x, x = leVal (l.take k) := ⟨_, rfl⟩
      have hy2 : y < 256 := by rw [hy]; exact HB.out.at hlt
      have hsn : leVal (l.take (k + 1)) = x + y * 2 ^ (8 * k) := by rw [take_snoc_getD hlt, leVal_snoc, List.length_take, Nat.min_eq_left hk, ← hx, ← hy]
      have hx2 : x < 2 ^ (8 * k) := by rw [hx]; have := leVal_lt (HB.out.take k); rwa [List.length_take, Nat.min_eq_left hk] at this
      rw [← hy] at hc
      rw [← hx]
      have hlim : x + y * 2 ^ (8 * k) < 18446744073709551616 := by
        rw [← hsn]; exact Nat.lt_of_lt_of_le (leVal_lt (HB.out.take (k + 1))) (by rw [show (18446744073709551616 : Nat) = 2 ^ 64 from rfl]; exact Nat.pow_le_pow_right (by decide) (by rw [List.length_take]; omega))
      have hor := or_high x y (8 * k) hx2 hlim
      have HY := Lib.hid hy; have HX := Lib.hid hx; have HS := Lib.hid hsn; have HX2 := Lib.hid hx2; have HLM := Lib.hid hlim; have HOR := Lib.hid hor; clear hy hx hsn hx2 hlim hor
      go_wp2
      go_round
      case rel => exact ⟨k + 1, hlt, by go_num, v_int (by rw [HS.out]; exact shl_or _ _ _ HX2.out HLM.out)⟩
      case measure => simp [intOf]; omega
    · obtain rfl : k = l.length := by omega
      go_wp2
      go_ret
      exact ⟨ret_int (by first | rfl | rw [List.take_of_length_le (Nat.le_refl _)]), rfl⟩

theorem leVal_drop {l : List Nat} {k : Nat} (h : k < l.length) : leVal (l.drop k) = l.getD k 0 + 256 * leVal (l.drop (k + 1)) := by
  rw [List.drop_eq_getElem_cons h]
  show l[k] + 256 * _ = _
  rw [List.getD, List.getElem?_eq_getElem h]; rfl

set_option maxRecDepth 100000 in
set_option maxHeartbeats 600000 in
theorem Rtake_any (A : Option Addr) (c : Nat) (l : List Nat) (hb : Bytes l) (hl : l.length ≤ 8) (w : World) (hr : SlAt w A (u8v l)) : Calls Tryd.prog 50 #[.slice A l.length c] w fun e w' => e = .returned (.int .u64 (leVal l : Int)) ∧ w = w' := by
  have HB := Lib.hid hb; have HR := Lib.hid hr; clear hb hr
  go_enter Tryd.func50, Tryd.ntmps50
  go_wp2
  go_loop [3, 4] (fun xv iv => ∃ k, k ≤ l.length ∧ iv = .int .i64 ((k : Int) - 1) ∧ xv = .int .u64 (leVal (l.drop k) : Int)) (fun _ iv => (intOf iv + 1).toNat)
  case atStart => exact ⟨l.length, Nat.le_refl _, rfl, by rw [List.drop_of_length_le (Nat.le_refl _)]; rfl⟩
  case round =>
    obtain ⟨k, hk, rfl, rfl⟩ := hrel
    by_cases h0 : 0 < k
    · obtain ⟨j, rfl⟩ : ∃ j, k = j + 1 := ⟨k - 1, by omega⟩
      have hj : j < l.length := by omega
      obtain ⟨ad, rfl, hblk, hc⟩ := HR.out.at hj
      obtain ⟨y, hy⟩ : ∃ y, y = l.getD j 0 := ⟨_, rfl⟩
      obtain ⟨x, hx⟩ : ∃ x, x = leVal (l.drop (j + 1)) := ⟨_, rfl⟩
      have hy2 : y < 256 := by rw [hy]; exact HB.out.at hj
      have hdr : leVal (l.drop j) = y + 256 * x := by rw [leVal_drop hj, ← hx, ← hy]
      have hlim : y + 256 * x < 18446744073709551616 := by
        rw [← hdr]; exact Nat.lt_of_lt_of_le (leVal_lt (HB.out.drop j)) (by rw [show (18446744073709551616 : Nat) = 2 ^ 64 from rfl]; exact Nat.pow_le_pow_right (by decide) (by rw [List.length_drop]; omega))
      rw [← hy] at hc
      rw [← hx]
      have c1 : IntKind.u64.wrap (256 * (x : Int)) = 256 * (x : Int) := by rw [IntKind.wrap_u64]; omega
      have c2 : IntKind.u64.wrap (256 * (x : Int) + (y : Int)) = 256 * (x : Int) + (y : Int) := by rw [IntKind.wrap_u64]; omega
      have e1 : ((j + 1 : Nat) : Int) - 1 = (j : Int) := by omega
      rw [e1]
      have HY := Lib.hid hy; have HX := Lib.hid hx; have HD := Lib.hid hdr; have HLM := Lib.hid hlim; clear hy hx hdr hlim e1
      go_wp2
      go_round
      case rel => exact ⟨j, by omega, rfl, v_int (by rw [HD.out]; omega)⟩
      case measure => simp [intOf] <;> omega
    · obtain rfl : k = 0 := by omega
      go_wp2
      go_ret
      exact ⟨ret_int rfl, rfl⟩

set_option maxRecDepth 100000 in
set_option maxHeartbeats 600000 in
theorem sum_any (A : Option Addr) (c : Nat) (l : List Nat) (hb : Bytes l) (hl : l.length ≤ 9223372036854775807) (w : World) (hr : SlAt w A (u8v l)) : Calls Tryd.prog 19 #[.slice A l.length c] w fun e w' => e = .returned (.int .u32 (crcOf l : Int)) ∧ w = w' := by
  have HB := Lib.hid hb; have HR := Lib.hid hr; clear hb hr
  go_enter Tryd.func19, Tryd.ntmps19
  go_wp2
  go_loop [3, 9] (fun sv iv => ∃ k, k ≤ l.length ∧ iv = .int .i64 (k : Int) ∧ sv = .int .u32 (crcFold 4294967295 (l.take k) : Int)) (fun _ iv => l.length - (intOf iv).toNat)
  case atStart => exact ⟨0, Nat.zero_le _, rfl, rfl⟩
  case round =>
    obtain ⟨k, hk, rfl, rfl⟩ := hrel
    obtain ⟨s, hs⟩ : ∃ s, s = crcFold 4294967295 (l.take k) := ⟨_, rfl⟩
    have hs2 : s < 4294967296 := by rw [hs]; exact crcFold_lt (by decide) (HB.out.take k)
    rw [← hs]
    by_cases hlt : k < l.length
    · obtain ⟨ad, rfl, hblk, hc⟩ := HR.out.at hlt
      obtain ⟨y, hy⟩ : ∃ y, y = l.getD k 0 := ⟨_, rfl⟩
      have hy2 : y < 256 := by rw [hy]; exact HB.out.at hlt
      have hsn : crcFold 4294967295 (l.take (k + 1)) = crcBits 8 (s ^^^ y) := by rw [take_snoc_getD hlt, crcFold_append, ← hs, ← hy]; rfl
      have hx := u32_xor_nat s y hs2 (by omega)
      obtain ⟨t, ht⟩ : ∃ t, t = s ^^^ y := ⟨_, rfl⟩
      have ht2 : t < 4294967296 := by rw [ht]; exact xor32 hs2 (by omega)
      rw [← ht] at hx hsn
      rw [← hy] at hc
      have HY := Lib.hid hy; have HS := Lib.hid hs; have HS2 := Lib.hid hs2; have HSN := Lib.hid hsn; have HT := Lib.hid ht; have HT2 := Lib.hid ht2; clear hy hs hs2 hsn ht ht2
      go_wp2
      go_loop [3, 17] (fun sv kv => ∃ j : Nat, j ≤ 8 ∧ kv = .int .i64 (j : Int) ∧ sv = .int .u32 (crcBits j t : Int)) (fun _ kv => 8 - (intOf kv).toNat)
      case atStart => exact ⟨0, Nat.zero_le _, rfl, rfl⟩
      case round =>
        obtain ⟨j, hj, rfl, rfl⟩ := hrel
        by_cases hlj : j < 8
        · obtain ⟨v, hv⟩ : ∃ v, v = crcBits j t := ⟨_, rfl⟩
          have hv2 : v < 4294967296 := by rw [hv]; exact crcBits_lt j HT2.out
          have hvs : crcBits (j + 1) t = crcBit v := by rw [crcBits_add, ← hv]; rfl
          rw [← hv]
          have a1 : bits .and .u32 (v : Int) 1 = ((v % 2 : Nat) : Int) := by
            have := u32_and_nat v 1 hv2 (by decide)
            rw [Nat.and_one_is_mod] at this
            exact this
          have a2 : bits .xor .u32 ((v : Int) / 2) 3988292384 = ((v / 2 ^^^ 3988292384 : Nat) : Int) := by
            have := u32_xor_nat (v / 2) 3988292384 (by omega) (by decide)
            rw [show ((v / 2 : Nat) : Int) = (v : Int) / 2 by omega] at this
            exact this
          have a4 : bits .and .u32 3988292384 0 = 0 := by decide +kernel
          have a5 : bits .and .u32 3988292384 4294967295 = 3988292384 := by decide +kernel
          have a3 : bits .xor .u32 ((v : Int) / 2) 0 = (v : Int) / 2 := by
            have := u32_xor_nat (v / 2) 0 (by omega) (by decide)
            rw [Nat.xor_zero, show ((v / 2 : Nat) : Int) = (v : Int) / 2 by omega] at this
            exact this
          have HV := Lib.hid hv; have HVS := Lib.hid hvs; clear hv hvs
          rcases Nat.mod_two_eq_zero_or_one v with hp | hp
          · rw [hp] at a1
            have hcb : crcBit v = v / 2 := by unfold crcBit; rw [if_neg (by omega)]
            have HP := Lib.hid hp; have HCB := Lib.hid hcb; clear hcb
            have e0 : ((v : Int) % 2 == 1) = false := by rw [beq_eq_false_iff_ne]; omega
            clear hp
            go_wp2
            go_round
            case rel => exact ⟨j + 1, hlj, by go_num, v_int (by rw [HVS.out, HCB.out]; omega)⟩
            case measure => simp [intOf]; omega
          · rw [hp] at a1
            have hcb : crcBit v = v / 2 ^^^ 3988292384 := by unfold crcBit; rw [if_pos hp]
            rw [← hcb] at a2
            have HP := Lib.hid hp; clear hcb
            have e0 : ((v : Int) % 2 == 1) = true := by rw [beq_iff_eq]; omega
            clear hp
            go_wp2
            go_round
            case rel => exact ⟨j + 1, hlj, by go_num, v_int (by rw [HVS.out])⟩
            case measure => simp [intOf]; omega
        · obtain rfl : j = 8 := by omega
          go_wp2
          go_round
          case rel => exact ⟨k + 1, hlt, by go_num, v_int (by rw [HSN.out])⟩
          case measure => simp [intOf]; omega
    · obtain rfl : k = l.length := by omega
      have hfin : crcOf l = 4294967295 ^^^ s := by rw [Nat.xor_comm, hs, List.take_of_length_le (Nat.le_refl _)]; rfl
      have hx : bits .xor .u32 IntKind.u32.max (s : Int) = ((crcOf l : Nat) : Int) := by rw [hfin]; exact u32_xor_nat 4294967295 s (by decide) hs2
      have HX := Lib.hid hx; clear hfin hs hx hs2
      go_wp2
      go_ret
      exact ⟨ret_int HX.out, rfl⟩

set_option maxRecDepth 100000 in
set_option maxHeartbeats 600000 in
theorem Rsum_any (A : Option Addr) (c : Nat) (l : List Nat) (hb : Bytes l) (hl : l.length ≤ 9223372036854775807) (w : World) (hr : SlAt w A (u8v l)) : Calls Tryd.prog 20 #[.slice A l.length c] w fun e w' => e = .returned (.int .u32 (crcOf l : Int)) ∧ w = w' := by
  have HB := Lib.hid hb; have HR := Lib.hid hr; clear hb hr
  go_enter Tryd.func20, Tryd.ntmps20
  go_wp2
  go_loop [3, 9] (fun sv iv => ∃ k, k ≤ l.length ∧ iv = .int .i64 (k : Int) ∧ sv = .int .u32 (crcFold 4294967295 (l.take k) : Int)) (fun _ iv => l.length - (intOf iv).toNat)
  case atStart => exact ⟨0, Nat.zero_le _, rfl, rfl⟩
  case round =>
    obtain ⟨k, hk, rfl, rfl⟩ := hrel
    obtain ⟨s, hs⟩ : ∃ s, s = crcFold 4294967295 (l.take k) := ⟨_, rfl⟩
    have hs2 : s < 4294967296 := by rw [hs]; exact crcFold_lt (by decide) (HB.out.take k)
    rw [← hs]
    by_cases hlt : k < l.length
    · obtain ⟨ad, rfl, hblk, hc⟩ := HR.out.at hlt
      obtain ⟨y, hy⟩ : ∃ y, y = l.getD k 0 := ⟨_, rfl⟩
      have hy2 : y < 256 := by rw [hy]; exact HB.out.at hlt
      have hsn : crcFold 4294967295 (l.take (k + 1)) = crcBits 8 (s ^^^ y) := by rw [take_snoc_getD hlt, crcFold_append, ← hs, ← hy]; rfl
      have hx := u32_xor_nat s y hs2 (by omega)
      obtain ⟨t, ht⟩ : ∃ t, t = s ^^^ y := ⟨_, rfl⟩
      have ht2 : t < 4294967296 := by rw [ht]; exact xor32 hs2 (by omega)
      rw [← ht] at hx hsn
      rw [← hy] at hc
      have HY := Lib.hid hy; have HS := Lib.hid hs; have HS2 := Lib.hid hs2; have HSN := Lib.hid hsn; have HT := Lib.hid ht; have HT2 := Lib.hid ht2; clear hy hs hs2 hsn ht ht2
      go_wp2
      go_loop [3, 6] (fun sv kv => ∃ j : Nat, j ≤ 8 ∧ kv = .int .i64 (j : Int) ∧ sv = .int .u32 (crcBits j t : Int)) (fun _ kv => 8 - (intOf kv).toNat)
      case atStart => exact ⟨0, Nat.zero_le _, rfl, rfl⟩
      case round =>
        obtain ⟨j, hj, rfl, rfl⟩ := hrel
        by_cases hlj : j < 8
        · obtain ⟨v, hv⟩ : ∃ v, v = crcBits j t := ⟨_, rfl⟩
          have hv2 : v < 4294967296 := by rw [hv]; exact crcBits_lt j HT2.out
          have hvs : crcBits (j + 1) t = crcBit v := by rw [crcBits_add, ← hv]; rfl
          rw [← hv]
          have a1 : bits .and .u32 (v : Int) 1 = ((v % 2 : Nat) : Int) := by
            have := u32_and_nat v 1 hv2 (by decide)
            rw [Nat.and_one_is_mod] at this
            exact this
          have a2 : bits .xor .u32 ((v : Int) / 2) 3988292384 = ((v / 2 ^^^ 3988292384 : Nat) : Int) := by
            have := u32_xor_nat (v / 2) 3988292384 (by omega) (by decide)
            rw [show ((v / 2 : Nat) : Int) = (v : Int) / 2 by omega] at this
            exact this
          have a4 : bits .and .u32 3988292384 0 = 0 := by decide +kernel
          have a5 : bits .and .u32 3988292384 4294967295 = 3988292384 := by decide +kernel
          have a3 : bits .xor .u32 ((v : Int) / 2) 0 = (v : Int) / 2 := by
            have := u32_xor_nat (v / 2) 0 (by omega) (by decide)
            rw [Nat.xor_zero, show ((v / 2 : Nat) : Int) = (v : Int) / 2 by omega] at this
            exact this
          have HV := Lib.hid hv; have HVS := Lib.hid hvs; clear hv hvs
          rcases Nat.mod_two_eq_zero_or_one v with hp | hp
          · rw [hp] at a1
            have hcb : crcBit v = v / 2 := by unfold crcBit; rw [if_neg (by omega)]
            have HP := Lib.hid hp; have HCB := Lib.hid hcb; clear hcb
            have e0 : ((v : Int) % 2 == 1) = false := by rw [beq_eq_false_iff_ne]; omega
            clear hp
            go_wp2
            go_round
            case rel => exact ⟨j + 1, hlj, by go_num, v_int (by rw [HVS.out, HCB.out]; omega)⟩
            case measure => simp [intOf]; omega
          · rw [hp] at a1
            have hcb : crcBit v = v / 2 ^^^ 3988292384 := by unfold crcBit; rw [if_pos hp]
            rw [← hcb] at a2
            have HP := Lib.hid hp; clear hcb
            have e0 : ((v : Int) % 2 == 1) = true := by rw [beq_iff_eq]; omega
            clear hp
            go_wp2
            go_round
            case rel => exact ⟨j + 1, hlj, by go_num, v_int (by rw [HVS.out])⟩
            case measure => simp [intOf]; omega
        · obtain rfl : j = 8 := by omega
          go_wp2
          go_round
          case rel => exact ⟨k + 1, hlt, by go_num, v_int (by rw [HSN.out])⟩
          case measure => simp [intOf]; omega
    · obtain rfl : k = l.length := by omega
      have hfin : crcOf l = 4294967295 ^^^ s := by rw [Nat.xor_comm, hs, List.take_of_length_le (Nat.le_refl _)]; rfl
      have hx : bits .xor .u32 IntKind.u32.max (s : Int) = ((crcOf l : Nat) : Int) := by rw [hfin]; exact u32_xor_nat 4294967295 s (by decide) hs2
      have HX := Lib.hid hx; clear hfin hs hx hs2
      go_wp2
      go_ret
      exact ⟨ret_int HX.out, rfl⟩

theorem put4 (base : Nat) (v : Value) (l : List Nat) (x : Nat) (hx : x < 18446744073709551616) (hl : l.length + 8 ≤ 140737488355328) (w : World) (hb : base ≤ w.heap.size) (hown : OwnB w base v l) : Calls Tryd.prog 35 #[v, .int .u64 (x : Int), .int .i64 4] w fun e w' => ∃ v', e = .returned v' ∧ OwnB w' base v' (l ++ leBytes 4 x) ∧ Below base w w' := put_any base v l x 4 hx (by decide) hl w hb hown

theorem put8 (base : Nat) (v : Value) (l : List Nat) (x : Nat) (hx : x < 18446744073709551616) (hl : l.length + 8 ≤ 140737488355328) (w : World) (hb : base ≤ w.heap.size) (hown : OwnB w base v l) : Calls Tryd.prog 35 #[v, .int .u64 (x : Int), .int .i64 8] w fun e w' => ∃ v', e = .returned v' ∧ OwnB w' base v' (l ++ leBytes 8 x) ∧ Below base w w' := put_any base v l x 8 hx (by decide) hl w hb hown

theorem Rput4 (base : Nat) (v : Value) (l : List Nat) (x : Nat) (hx : x < 18446744073709551616) (hl : l.length + 8 ≤ 140737488355328) (w : World) (hb : base ≤ w.heap.size) (hown : OwnB w base v l) : Calls Tryd.prog 22 #[v, .int .u64 (x : Int), .int .i64 4] w fun e w' => ∃ v', e = .returned v' ∧ OwnB w' base v' (l ++ leBytes 4 x) ∧ Below base w w' := Rput_any base v l x 4 hx (by decide) hl w hb hown

theorem Rput8 (base : Nat) (v : Value) (l : List Nat) (x : Nat) (hx : x < 18446744073709551616) (hl : l.length + 8 ≤ 140737488355328) (w : World) (hb : base ≤ w.heap.size) (hown : OwnB w base v l) : Calls Tryd.prog 22 #[v, .int .u64 (x : Int), .int .i64 8] w fun e w' => ∃ v', e = .returned v' ∧ OwnB w' base v' (l ++ leBytes 8 x) ∧ Below base w w' := Rput_any base v l x 8 hx (by decide) hl w hb hown

end Go.Proofs.YtmpcnhiklpahnaaDoor
