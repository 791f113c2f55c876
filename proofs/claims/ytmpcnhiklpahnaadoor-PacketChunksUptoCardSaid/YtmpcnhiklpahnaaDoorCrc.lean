/- CRC-32 as a plain function: it is linear, loses nothing, and tells four bytes side by side that are changed: no program. -/
namespace Go.Proofs.YtmpcnhiklpahnaaDoor

/-- one bit -/
def crcBit (s : Nat) : Nat := if s % 2 = 1 then (s / 2) ^^^ 3988292384 else s / 2
def crcBits : Nat → Nat → Nat
  | 0, s => s
  | k + 1, s => crcBits k (crcBit s)
/-- one byte -/
def crcStep (s c : Nat) : Nat := crcBits 8 (s ^^^ c)
def crcFold (s : Nat) (l : List Nat) : Nat := l.foldl crcStep s
def crcOf (l : List Nat) : Nat := crcFold 4294967295 l ^^^ 4294967295
/-- bytes -/
def Bytes (l : List Nat) : Prop := ∀ c ∈ l, c < 256
/-- a number of bytes, the lowest ahead -/
def leVal : List Nat → Nat
  | [] => 0
  | c :: l => c + 256 * leVal l
/-- a number's bytes, the lowest ahead -/
def leBytes : Nat → Nat → List Nat
  | 0, _ => []
  | k + 1, x => x % 256 :: leBytes k (x / 256)

theorem xor_half (a b : Nat) : (a ^^^ b) / 2 = (a / 2) ^^^ (b / 2) := by
  apply Nat.eq_of_testBit_eq
  intro i
  rw [Nat.testBit_div_two, Nat.testBit_xor, Nat.testBit_xor, Nat.testBit_div_two, Nat.testBit_div_two]
theorem xor_odd (a b : Nat) : (a ^^^ b) % 2 = (a + b) % 2 := by
  have h := Nat.testBit_xor a b 0
  simp only [Nat.testBit_zero] at h
  rcases Nat.mod_two_eq_zero_or_one a with ha | ha <;> rcases Nat.mod_two_eq_zero_or_one b with hb | hb <;> rcases Nat.mod_two_eq_zero_or_one (a ^^^ b) with hc | hc <;> simp [ha, hb, hc] at h <;> omega
theorem crcBit_xor (a b : Nat) : crcBit (a ^^^ b) = crcBit a ^^^ crcBit b := by
  have h := xor_odd a b
  unfold crcBit
  rw [xor_half]
  rcases Nat.mod_two_eq_zero_or_one a with ha | ha <;> rcases Nat.mod_two_eq_zero_or_one b with hb | hb
  · rw [if_neg (by omega), if_neg (by omega), if_neg (by omega)]
  · rw [if_pos (by omega), if_neg (by omega), if_pos (by omega), Nat.xor_assoc]
  · rw [if_pos (by omega), if_pos (by omega), if_neg (by omega), Nat.xor_assoc, Nat.xor_assoc, Nat.xor_comm (b / 2)]
  · rw [if_neg (by omega), if_pos (by omega), if_pos (by omega)]
    rw [Nat.xor_assoc, ← Nat.xor_assoc 3988292384, Nat.xor_comm 3988292384 (b / 2), Nat.xor_assoc (b / 2), Nat.xor_self, Nat.xor_zero]
theorem xor32 {a b : Nat} (ha : a < 4294967296) (hb : b < 4294967296) : a ^^^ b < 4294967296 := Nat.xor_lt_two_pow (n := 32) ha hb
theorem crcBit_lt {s : Nat} (h : s < 4294967296) : crcBit s < 4294967296 := by
  unfold crcBit
  split
  · exact xor32 (by omega) (by decide)
  · omega
theorem crcBit_zero : crcBit 0 = 0 := by decide
/-- the last bit stands at the top behind it -/
theorem crcBit_top {s : Nat} (h : s < 4294967296) : (crcBit s).testBit 31 = decide (s % 2 = 1) := by
  have h0 : (s / 2).testBit 31 = false := Nat.testBit_lt_two_pow (by omega)
  unfold crcBit
  by_cases k : s % 2 = 1
  · rw [if_pos k, Nat.testBit_xor, h0, decide_eq_true k]; decide
  · rw [if_neg k, h0, decide_eq_false k]
theorem xor_cancel_r {a b c : Nat} (h : a ^^^ c = b ^^^ c) : a = b := by
  have := congrArg (· ^^^ c) h
  simpa only [Nat.xor_assoc, Nat.xor_self, Nat.xor_zero] using this
theorem crcBit_inj {a b : Nat} (ha : a < 4294967296) (hb : b < 4294967296) (h : crcBit a = crcBit b) : a = b := by
  have t1 := crcBit_top ha
  have t2 := crcBit_top hb
  rw [h, t2, decide_eq_decide] at t1
  unfold crcBit at h
  by_cases k : a % 2 = 1
  · rw [if_pos k, if_pos (t1.2 k)] at h
    have := xor_cancel_r h
    have := t1.2 k
    omega
  · rw [if_neg k, if_neg (fun g => k (t1.1 g))] at h
    have : ¬ b % 2 = 1 := fun g => k (t1.1 g)
    omega
theorem crcBits_lt : ∀ (k : Nat) {s : Nat}, s < 4294967296 → crcBits k s < 4294967296
  | 0, _, h => h
  | k + 1, _, h => crcBits_lt k (crcBit_lt h)
theorem crcBits_inj : ∀ (k : Nat) {a b : Nat}, a < 4294967296 → b < 4294967296 → crcBits k a = crcBits k b → a = b
  | 0, _, _, _, _, h => h
  | k + 1, _, _, ha, hb, h => crcBit_inj ha hb (crcBits_inj k (crcBit_lt ha) (crcBit_lt hb) h)
theorem crcBits_xor : ∀ (k a b : Nat), crcBits k (a ^^^ b) = crcBits k a ^^^ crcBits k b
  | 0, _, _ => rfl
  | k + 1, a, b => by
    show crcBits k (crcBit (a ^^^ b)) = crcBits k (crcBit a) ^^^ crcBits k (crcBit b)
    rw [crcBit_xor, crcBits_xor k]
theorem crcBits_zero : ∀ k, crcBits k 0 = 0
  | 0 => rfl
  | k + 1 => by show crcBits k (crcBit 0) = 0; rw [crcBit_zero]; exact crcBits_zero k
theorem crcBits_add : ∀ (k j s : Nat), crcBits (k + j) s = crcBits j (crcBits k s)
  | 0, j, s => by rw [Nat.zero_add]; rfl
  | k + 1, j, s => by rw [Nat.add_right_comm]; exact crcBits_add k j (crcBit s)
/-- noughts ahead are shifted out -/
theorem crcBits_shift : ∀ (k x : Nat), crcBits k (x * 2 ^ k) = x
  | 0, x => Nat.mul_one x
  | k + 1, x => by
    have e : crcBit (x * 2 ^ (k + 1)) = x * 2 ^ k := by
      have e2 : x * 2 ^ (k + 1) = 2 * (x * 2 ^ k) := by rw [Nat.pow_succ, ← Nat.mul_assoc, Nat.mul_comm]
      unfold crcBit
      rw [e2, if_neg (by omega)]; omega
    show crcBits k (crcBit (x * 2 ^ (k + 1))) = x
    rw [e]; exact crcBits_shift k x

theorem crcStep_lt {s c : Nat} (hs : s < 4294967296) (hc : c < 256) : crcStep s c < 4294967296 := crcBits_lt 8 (xor32 hs (by omega))
theorem crcStep_xor (s t c d : Nat) : crcStep (s ^^^ t) (c ^^^ d) = crcStep s c ^^^ crcStep t d := by
  unfold crcStep
  rw [← crcBits_xor]
  congr 1
  rw [Nat.xor_assoc, Nat.xor_assoc, ← Nat.xor_assoc t, Nat.xor_comm t c, Nat.xor_assoc c]
theorem crcFold_lt : ∀ {l : List Nat} {s : Nat}, s < 4294967296 → Bytes l → crcFold s l < 4294967296
  | [], _, h, _ => h
  | c :: l, _, h, hl => crcFold_lt (l := l) (crcStep_lt h (hl c (by simp))) (fun d hd => hl d (by simp [hd]))
theorem crcOf_lt {l : List Nat} (h : Bytes l) : crcOf l < 4294967296 := xor32 (crcFold_lt (by decide) h) (by decide)
theorem crcFold_append (s : Nat) (l m : List Nat) : crcFold s (l ++ m) = crcFold (crcFold s l) m := List.foldl_append ..
theorem crcFold_cons (s c : Nat) (l : List Nat) : crcFold s (c :: l) = crcFold (crcStep s c) l := rfl
theorem crcFold_xor : ∀ (l m : List Nat) (s t : Nat), l.length = m.length → crcFold (s ^^^ t) (List.zipWith (· ^^^ ·) l m) = crcFold s l ^^^ crcFold t m
  | [], [], _, _, _ => rfl
  | [], _ :: _, _, _, h => by simp at h
  | _ :: _, [], _, _, h => by simp at h
  | c :: l, d :: m, s, t, h => by
    rw [List.zipWith_cons_cons, crcFold_cons, crcFold_cons, crcFold_cons, crcStep_xor]
    exact crcFold_xor l m _ _ (by simpa using h)
theorem crcFold_zeros : ∀ (k s : Nat), crcFold s (List.replicate k 0) = crcBits (8 * k) s
  | 0, _ => rfl
  | k + 1, s => by
    rw [List.replicate_succ, crcFold_cons, crcFold_zeros k, Nat.mul_succ, Nat.add_comm, crcBits_add]
    unfold crcStep
    rw [Nat.xor_zero]
theorem leVal_lt : ∀ {l : List Nat}, Bytes l → leVal l < 2 ^ (8 * l.length)
  | [], _ => by decide
  | c :: l, h => by
    have h1 := leVal_lt (l := l) (fun d hd => h d (by simp [hd]))
    have h2 := h c (by simp)
    rw [List.length_cons, Nat.mul_succ, Nat.pow_add, show (2 : Nat) ^ 8 = 256 from rfl]
    show c + 256 * leVal l < _
    generalize 2 ^ (8 * l.length) = Z at *
    omega
theorem leVal_bytes : ∀ (k x : Nat), leVal (leBytes k x) = x % 256 ^ k
  | 0, x => by rw [Nat.pow_zero, Nat.mod_one]; rfl
  | k + 1, x => by
    show x % 256 + 256 * leVal (leBytes k (x / 256)) = _
    rw [leVal_bytes k, Nat.pow_succ, Nat.mul_comm (256 ^ k), Nat.mod_mul]
theorem leBytes_len : ∀ (k x : Nat), (leBytes k x).length = k
  | 0, _ => rfl
  | k + 1, x => by show _ + 1 = _; rw [leBytes_len k]
theorem leBytes_bytes : ∀ (k x : Nat), Bytes (leBytes k x)
  | 0, _ => fun c hc => by cases hc
  | k + 1, x => fun c hc => by
    rcases List.mem_cons.1 hc with rfl | h
    · omega
    · exact leBytes_bytes k _ c h
theorem leBytes_snoc : ∀ (k x : Nat), leBytes (k + 1) x = leBytes k x ++ [x / 256 ^ k % 256]
  | 0, x => by rw [Nat.pow_zero, Nat.div_one]; rfl
  | k + 1, x => by
    show x % 256 :: leBytes (k + 1) (x / 256) = (x % 256 :: leBytes k (x / 256)) ++ _
    rw [leBytes_snoc k (x / 256), Nat.div_div_eq_div_mul, Nat.pow_succ, Nat.mul_comm 256]; rfl
theorem leBytes_val : ∀ {l : List Nat}, Bytes l → leBytes l.length (leVal l) = l
  | [], _ => rfl
  | c :: l, h => by
    have h1 := leBytes_val (l := l) (fun d hd => h d (by simp [hd]))
    have h2 := h c (by simp)
    show (c + 256 * leVal l) % 256 :: leBytes l.length ((c + 256 * leVal l) / 256) = _
    rw [show (c + 256 * leVal l) % 256 = c by omega, show (c + 256 * leVal l) / 256 = leVal l by omega, h1]
theorem leVal_inj {l m : List Nat} (hl : Bytes l) (hm : Bytes m) (hn : l.length = m.length) (h : leVal l = leVal m) : l = m := by
  rw [← leBytes_val hl, ← leBytes_val hm, hn, h]
theorem xor_mul256 (a b x y : Nat) (ha : a < 256) (hb : b < 256) : (a + 256 * x) ^^^ (b + 256 * y) = (a ^^^ b) + 256 * (x ^^^ y) := by
  have key : ∀ a x : Nat, a < 256 → a + 256 * x = 2 ^ 8 * x ||| a := fun a x ha => by
    rw [← Nat.two_pow_add_eq_or_of_lt (i := 8) ha x]; omega
  rw [key a x ha, key b y hb, key _ _ (Nat.xor_lt_two_pow (n := 8) ha hb)]
  apply Nat.eq_of_testBit_eq
  intro i
  simp only [Nat.testBit_xor, Nat.testBit_or, Nat.testBit_two_pow_mul]
  by_cases hi : 8 ≤ i
  · have t : ∀ z : Nat, z < 256 → z.testBit i = false := fun z hz => Nat.testBit_lt_two_pow (Nat.lt_of_lt_of_le hz (by rw [show (256 : Nat) = 2 ^ 8 from rfl]; exact Nat.pow_le_pow_right (by decide) hi))
    simp [hi, t a ha, t b hb]
  · simp [hi]
theorem leVal_xor : ∀ {l m : List Nat}, Bytes l → Bytes m → l.length = m.length → leVal (List.zipWith (· ^^^ ·) l m) = leVal l ^^^ leVal m
  | [], [], _, _, _ => rfl
  | [], _ :: _, _, _, h => by simp at h
  | _ :: _, [], _, _, h => by simp at h
  | c :: l, d :: m, h1, h2, h => by
    rw [List.zipWith_cons_cons]
    show (c ^^^ d) + 256 * leVal (List.zipWith (· ^^^ ·) l m) = (c + 256 * leVal l) ^^^ (d + 256 * leVal m)
    rw [leVal_xor (fun e he => h1 e (by simp [he])) (fun e he => h2 e (by simp [he])) (by simpa using h), xor_mul256 _ _ _ _ (h1 c (by simp)) (h2 d (by simp))]
/-- few bytes at once -/
theorem crcFold_few : ∀ {l : List Nat} (s : Nat), Bytes l → l.length ≤ 4 → crcFold s l = crcBits (8 * l.length) (s ^^^ leVal l)
  | [], s, _, _ => by show s = s ^^^ 0; rw [Nat.xor_zero]
  | c :: l, s, h, hn => by
    have hl : Bytes l := fun d hd => h d (by simp [hd])
    rw [crcFold_cons, crcFold_few _ hl (by simp at hn; omega), List.length_cons, Nat.mul_succ, Nat.add_comm, crcBits_add]
    congr 1
    have e : leVal (c :: l) = c ^^^ leVal l * 2 ^ 8 := by
      have := xor_mul256 c 0 0 (leVal l) (h c (by simp)) (by decide)
      rw [Nat.mul_zero, Nat.add_zero, Nat.zero_add, Nat.xor_zero, Nat.zero_xor] at this
      rw [Nat.mul_comm (leVal l), show (2 : Nat) ^ 8 = 256 from rfl, this]; rfl
    rw [e, ← Nat.xor_assoc, crcBits_xor, crcBits_shift]; rfl

theorem zeros_bytes (k : Nat) : Bytes (List.replicate k 0) := fun c hc => by rw [List.eq_of_mem_replicate hc]; decide
theorem leVal_zeros : ∀ k, leVal (List.replicate k 0) = 0
  | 0 => rfl
  | k + 1 => by rw [List.replicate_succ]; show 0 + 256 * leVal (List.replicate k 0) = 0; rw [leVal_zeros k]
theorem leVal_zeros_end : ∀ (l : List Nat) (k : Nat), leVal (l ++ List.replicate k 0) = leVal l
  | [], k => leVal_zeros k
  | c :: l, k => by show c + 256 * leVal (l ++ List.replicate k 0) = _; rw [leVal_zeros_end l k]; rfl
theorem Bytes.take {l : List Nat} (h : Bytes l) (k : Nat) : Bytes (l.take k) := fun c hc => h c (List.mem_of_mem_take hc)
theorem Bytes.drop {l : List Nat} (h : Bytes l) (k : Nat) : Bytes (l.drop k) := fun c hc => h c (List.mem_of_mem_drop hc)
theorem Bytes.append {l m : List Nat} (h : Bytes l) (k : Bytes m) : Bytes (l ++ m) := fun c hc => (List.mem_append.1 hc).elim (h c) (k c)
/-- a change among four bytes is told by the sum -/
theorem crc_burst {e : List Nat} (he : Bytes e) (h4 : e.length = 4) (hne : e ≠ List.replicate 4 0) (p q : Nat) :
    crcFold 0 ((List.replicate p 0 ++ e ++ List.replicate q 0).take (p + q)) ≠ leVal ((List.replicate p 0 ++ e ++ List.replicate q 0).drop (p + q)) := by
  have hz : leVal e ≠ 0 := fun h => hne (leVal_inj he (zeros_bytes 4) (by simpa using h4) (by rw [h, leVal_zeros]))
  have hlt := leVal_lt he
  rw [h4] at hlt
  have hpz : crcFold 0 (List.replicate p 0) = 0 := by rw [crcFold_zeros, crcBits_zero]
  rcases Nat.lt_or_ge q 4 with hq | hq
  · have e1 : (List.replicate p 0 ++ e ++ List.replicate q 0).take (p + q) = List.replicate p 0 ++ e.take q := by
      rw [List.append_assoc, List.take_append, List.length_replicate, List.take_of_length_le (by simp), Nat.add_sub_cancel_left, List.take_append_of_le_length (by omega)]
    have e2 : (List.replicate p 0 ++ e ++ List.replicate q 0).drop (p + q) = e.drop q ++ List.replicate q 0 := by
      rw [List.append_assoc, List.drop_append, List.length_replicate, List.drop_of_length_le (by simp), Nat.add_sub_cancel_left, List.nil_append, List.drop_append_of_le_length (by omega)]
    rw [e1, e2, leVal_zeros_end, crcFold_append, hpz, crcFold_few _ (he.take q) (by rw [List.length_take]; omega), Nat.zero_xor, List.length_take, show min q e.length = q by omega]
    intro h
    have ht := leVal_lt (he.take q)
    have hd := leVal_lt (he.drop q)
    rw [List.length_take, show min q e.length = q by omega] at ht
    rw [List.length_drop, h4] at hd
    have h32 : (2 : Nat) ^ (8 * (4 - q)) * 2 ^ (8 * q) = 4294967296 := by rw [← Nat.pow_add, show 8 * (4 - q) + 8 * q = 32 by omega]
    have hs := crcBits_shift (8 * q) (leVal (e.drop q))
    have hp := Nat.two_pow_pos (8 * q)
    have hp2 := Nat.two_pow_pos (8 * (4 - q))
    have hb : leVal (e.drop q) * 2 ^ (8 * q) < 4294967296 := by
      rw [← h32]; exact Nat.mul_lt_mul_of_pos_right hd hp
    have ha : leVal (e.take q) < 4294967296 := by
      rw [← h32]; exact Nat.lt_of_lt_of_le ht (Nat.le_mul_of_pos_left _ hp2)
    have heq := crcBits_inj (8 * q) ha hb (h.trans hs.symm)
    have hd0 : leVal (e.drop q) = 0 := by
      rcases Nat.eq_zero_or_pos (leVal (e.drop q)) with h0 | h0
      · exact h0
      · have := Nat.le_mul_of_pos_left (2 ^ (8 * q)) h0
        omega
    rw [hd0, Nat.zero_mul] at heq
    have z1 := leVal_inj (he.take q) (zeros_bytes q) (by rw [List.length_take, List.length_replicate]; omega) (by rw [heq, leVal_zeros])
    have z2 := leVal_inj (he.drop q) (zeros_bytes (4 - q)) (by rw [List.length_drop, List.length_replicate, h4]) (by rw [hd0, leVal_zeros])
    apply hne
    rw [← List.take_append_drop q e, z1, z2, List.replicate_append_replicate, show q + (4 - q) = 4 by omega]
  · obtain ⟨k, rfl⟩ : ∃ k, q = k + 4 := ⟨q - 4, by omega⟩
    have e0 : List.replicate p 0 ++ e ++ List.replicate (k + 4) 0 = (List.replicate p 0 ++ e ++ List.replicate k 0) ++ List.replicate 4 0 := by
      rw [← List.replicate_append_replicate, List.append_assoc, List.append_assoc, List.append_assoc]
    have el : (List.replicate p 0 ++ e ++ List.replicate k 0).length = p + (k + 4) := by simp only [List.length_append, List.length_replicate]; omega
    rw [e0, List.take_append_of_le_length (Nat.le_of_eq el.symm), List.take_of_length_le (Nat.le_of_eq el), List.drop_append_of_le_length (Nat.le_of_eq el.symm), List.drop_of_length_le (Nat.le_of_eq el), List.nil_append, leVal_zeros,
      crcFold_append, crcFold_append, hpz, crcFold_zeros, crcFold_few _ he (by omega), Nat.zero_xor]
    intro h
    have hl : crcBits (8 * e.length) (leVal e) < 4294967296 := crcBits_lt _ hlt
    have h1 := crcBits_inj (8 * k) hl (by decide) (h.trans (crcBits_zero _).symm)
    exact hz (crcBits_inj _ hlt (by decide) (h1.trans (crcBits_zero _).symm))
theorem zipWith_take (l m : List Nat) (k : Nat) : (List.zipWith (· ^^^ ·) l m).take k = List.zipWith (· ^^^ ·) (l.take k) (m.take k) := List.take_zipWith
theorem zipWith_drop (l m : List Nat) (k : Nat) : (List.zipWith (· ^^^ ·) l m).drop k = List.zipWith (· ^^^ ·) (l.drop k) (m.drop k) := List.drop_zipWith
/-- a frame whose sum is right, four bytes side by side of it changed: the sum is wrong -/
theorem crc_spoilt {b e : List Nat} {p q : Nat} (hb : Bytes b) (he : Bytes e) (h4 : e.length = 4) (hne : e ≠ List.replicate 4 0) (hn : b.length = p + 4 + q)
    (hs : crcOf (b.take (p + q)) = leVal (b.drop (p + q))) :
    crcOf ((List.zipWith (· ^^^ ·) b (List.replicate p 0 ++ e ++ List.replicate q 0)).take (p + q)) ≠ leVal ((List.zipWith (· ^^^ ·) b (List.replicate p 0 ++ e ++ List.replicate q 0)).drop (p + q)) := by
  have hd : Bytes (List.replicate p 0 ++ e ++ List.replicate q 0) := ((zeros_bytes p).append he).append (zeros_bytes q)
  have hl : (List.replicate p 0 ++ e ++ List.replicate q 0).length = b.length := by simp only [List.length_append, List.length_replicate]; omega
  have key := crc_burst he h4 hne p q
  generalize List.replicate p 0 ++ e ++ List.replicate q 0 = d at *
  rw [zipWith_take, zipWith_drop, leVal_xor (hb.drop _) (hd.drop _) (by rw [List.length_drop, List.length_drop, hl])]
  have hx := crcFold_xor (b.take (p + q)) (d.take (p + q)) 4294967295 0 (by rw [List.length_take, List.length_take, hl])
  rw [Nat.xor_zero] at hx
  unfold crcOf at hs ⊢
  rw [hx, ← hs]
  intro h
  apply key
  have h2 : (crcFold 4294967295 (b.take (p + q)) ^^^ crcFold 0 (d.take (p + q)) ^^^ 4294967295) ^^^ (crcFold 4294967295 (b.take (p + q)) ^^^ 4294967295) = ((crcFold 4294967295 (b.take (p + q)) ^^^ 4294967295) ^^^ leVal (d.drop (p + q))) ^^^ (crcFold 4294967295 (b.take (p + q)) ^^^ 4294967295) := congrArg (· ^^^ (crcFold 4294967295 (b.take (p + q)) ^^^ 4294967295)) h
  rw [Nat.xor_comm (crcFold 4294967295 (b.take (p + q)) ^^^ 4294967295) (leVal _), Nat.xor_assoc (leVal _), Nat.xor_self, Nat.xor_zero,
    Nat.xor_comm (crcFold 4294967295 (b.take (p + q))) (crcFold 0 _), Nat.xor_assoc (crcFold 0 _), Nat.xor_assoc (crcFold 0 _), Nat.xor_self, Nat.xor_zero] at h2
  exact h2
end Go.Proofs.YtmpcnhiklpahnaaDoor
