/- The sum of bytes: half a byte at a time, and bit by bit: one number; and that a byte that is turned turns it. -/
import Derived.Test.YtmcdpgopjfpjeaaPlain
namespace Go.Proofs.Ytmcdpgopjfpjeaa.S
open Go.RowKit Go.Proofs.YtmcdpgopjfpjeaaW.PrintWords Go.Proofs.YtmcdpgopjfpjeaaW.PrintLast Go.Proofs.YtmcdpgopjfpjeaaW.PrintMore
set_option linter.unusedVariables false
set_option linter.unusedSimpArgs false
theorem wraps_u32 (n : Int) (h₀ : 0 ≤ n) (h₁ : n < 2 ^ 32) : IntKind.u32.wrap n = n := by rw [IntKind.wrap_u32]; omega
theorem xor_nat (a b : Nat) (ha : a < 4294967296) (hb : b < 4294967296) : Go.bits .xor .u32 (a : Int) (b : Int) = ((a ^^^ b : Nat) : Int) := by
  have ha' : a % 2 ^ 32 = a := Nat.mod_eq_of_lt (by omega)
  have hb' : b % 2 ^ 32 = b := Nat.mod_eq_of_lt (by omega)
  have hx : a ^^^ b < 2 ^ 32 := Nat.xor_lt_two_pow (by omega) (by omega)
  show IntKind.u32.wrap (((BitVec.ofInt 32 (a : Int) ^^^ BitVec.ofInt 32 (b : Int)).toNat : Nat) : Int) = _
  rw [BitVec.ofInt_natCast, BitVec.ofInt_natCast, BitVec.toNat_xor, BitVec.toNat_ofNat, BitVec.toNat_ofNat, ha', hb']
  exact wraps_u32 _ (Int.natCast_nonneg _) (by exact_mod_cast hx)
theorem and_nat (a b : Nat) (ha : a < 4294967296) (hb : b < 4294967296) : Go.bits .and .u32 (a : Int) (b : Int) = ((a &&& b : Nat) : Int) := (bits_nat .u32 32 (by decide) wraps_u32 a b (by omega) (by omega)).1
theorem or_nat (a b : Nat) (ha : a < 4294967296) (hb : b < 4294967296) : Go.bits .or .u32 (a : Int) (b : Int) = ((a ||| b : Nat) : Int) := (bits_nat .u32 32 (by decide) wraps_u32 a b (by omega) (by omega)).2
/-- one bit's step -/
def sN (n : Nat) : Nat := (n / 2) ^^^ (if n % 2 = 1 then 3988292384 else 0)
theorem xor_lt {a b : Nat} (ha : a < 4294967296) (hb : b < 4294967296) : a ^^^ b < 4294967296 := Nat.xor_lt_two_pow (n := 32) ha hb
theorem sN_lt {n : Nat} (h : n < 4294967296) : sN n < 4294967296 := by
  unfold sN
  exact xor_lt (by omega) (by split <;> omega)
theorem stepH_nat (n : Nat) (h : n < 4294967296) : stepH (n : Int) = (sN n : Int) := by
  unfold stepH sN
  have e1 : Go.bits .and .u32 (n : Int) 1 = ((n % 2 : Nat) : Int) := by
    have := bits_mask .u32 32 (by decide) wraps_u32 1 (by decide) (n : Int) (by omega) (by omega)
    simpa using this
  have e2 : (n : Int) / 2 = ((n / 2 : Nat) : Int) := by omega
  rw [e1, e2]
  rcases Nat.mod_two_eq_zero_or_one n with h0 | h0
  · rw [h0]
    have : Go.bits .and .u32 3988292384 ((-((0 : Nat) : Int)) % 4294967296) = ((0 : Nat) : Int) := by decide +kernel
    rw [this, xor_nat _ _ (by omega) (by omega)]
    simp
  · rw [h0]
    have : Go.bits .and .u32 3988292384 ((-((1 : Nat) : Int)) % 4294967296) = ((3988292384 : Nat) : Int) := by decide +kernel
    rw [this, xor_nat _ _ (by omega) (by omega)]
    simp
theorem xor_div2 (a b : Nat) : (a ^^^ b) / 2 = (a / 2) ^^^ (b / 2) := by
  have := Nat.shiftRight_xor_distrib (a := a) (b := b) (i := 1)
  simpa [Nat.shiftRight_eq_div_pow] using this
theorem xor_mod2 (a b : Nat) : (a ^^^ b) % 2 = (a % 2 + b % 2) % 2 := by
  have h1 := Nat.testBit_xor a b 0
  simp only [Nat.testBit_zero] at h1
  rcases Nat.mod_two_eq_zero_or_one a with ha | ha <;> rcases Nat.mod_two_eq_zero_or_one b with hb | hb <;> rcases Nat.mod_two_eq_zero_or_one (a ^^^ b) with hc | hc <;> simp [ha, hb, hc] at h1 ⊢
theorem sN_xor (a b : Nat) : sN (a ^^^ b) = sN a ^^^ sN b := by
  unfold sN
  rw [xor_div2, xor_mod2]
  rcases Nat.mod_two_eq_zero_or_one a with ha | ha <;> rcases Nat.mod_two_eq_zero_or_one b with hb | hb <;> simp [ha, hb]
  · rw [Nat.xor_assoc]
  · rw [Nat.xor_assoc, Nat.xor_assoc, Nat.xor_comm 3988292384]
  · have : (a / 2 ^^^ 3988292384) ^^^ (b / 2 ^^^ 3988292384) = a / 2 ^^^ b / 2 := by
      rw [Nat.xor_assoc, Nat.xor_comm 3988292384, Nat.xor_assoc, Nat.xor_self, Nat.xor_zero]
    exact this.symm
theorem sN_double (y : Nat) : sN (2 * y) = y := by unfold sN; rw [if_neg (by omega)]; simp
def s8 (n : Nat) : Nat := sN (sN (sN (sN (sN (sN (sN (sN n)))))))
def s4 (n : Nat) : Nat := sN (sN (sN (sN n)))
theorem s4_lt {n : Nat} (h : n < 4294967296) : s4 n < 4294967296 := sN_lt (sN_lt (sN_lt (sN_lt h)))
theorem s8_lt {n : Nat} (h : n < 4294967296) : s8 n < 4294967296 := s4_lt (s4_lt h)
theorem s4_xor (a b : Nat) : s4 (a ^^^ b) = s4 a ^^^ s4 b := by unfold s4; simp only [sN_xor]
theorem s4_16 (q : Nat) : s4 (16 * q) = q := by
  unfold s4
  rw [show 16 * q = 2 * (2 * (2 * (2 * q))) by omega, sN_double, sN_double, sN_double, sN_double]
theorem split16 (n : Nat) : n = (16 * (n / 16)) ^^^ (n % 16) := by
  have h := Nat.two_pow_add_eq_or_of_lt (i := 4) (b := n % 16) (by omega) (n / 16)
  have h2 : 16 * (n / 16) + n % 16 = n := by omega
  have h3 : (16 * (n / 16)) ^^^ (n % 16) = (16 * (n / 16)) ||| (n % 16) := by
    apply Nat.eq_of_testBit_eq
    intro i
    rw [Nat.testBit_xor, Nat.testBit_or]
    rcases Nat.lt_or_ge i 4 with hi | hi
    · have : (16 * (n / 16)).testBit i = false := by
        rw [show 16 * (n / 16) = 2 ^ 4 * (n / 16) by omega, Nat.testBit_two_pow_mul]
        simp; omega
      rw [this]; simp
    · have : (n % 16).testBit i = false := Nat.testBit_lt_two_pow (Nat.lt_of_lt_of_le (show n % 16 < 2 ^ 4 by omega) (Nat.pow_le_pow_right (by decide) hi))
      rw [this]; simp
  rw [h3]
  have h' : 16 * (n / 16) + n % 16 = 16 * (n / 16) ||| n % 16 := h
  rw [← h']; omega
theorem halfJ_nat (n : Nat) (h : n < 4294967296) : halfJ (n : Int) = (s4 n : Int) := by
  unfold halfJ s4
  rw [stepH_nat n h, stepH_nat _ (sN_lt h), stepH_nat _ (sN_lt (sN_lt h)), stepH_nat _ (sN_lt (sN_lt (sN_lt h)))]
theorem nibJ_nat (n : Nat) (h : n < 4294967296) : nibJ (n : Int) = (s4 n : Int) := by
  unfold nibJ
  have e1 : Go.bits .and .u32 (n : Int) 15 = ((n % 16 : Nat) : Int) := by
    have := bits_mask .u32 32 (by decide) wraps_u32 4 (by decide) (n : Int) (by omega) (by omega)
    simpa using this
  have e2 : (n : Int) / 16 = ((n / 16 : Nat) : Int) := by omega
  rw [e1, e2, halfJ_nat _ (by omega), xor_nat _ _ (by omega) (s4_lt (by omega))]
  congr 1
  conv => rhs; rw [split16 n, s4_xor, s4_16]
theorem byteJ_nat (n c : Nat) (h : n < 4294967296) (hc : c < 4294967296) : byteJ (n : Int) (c : Int) = (s8 (n ^^^ c) : Int) := by
  unfold byteJ
  have e1 : (c : Int) % 4294967296 = (c : Int) := by omega
  rw [e1, xor_nat _ _ h hc, nibJ_nat _ (xor_lt h hc), nibJ_nat _ (s4_lt (xor_lt h hc))]
  rfl
/-- the state of the sum behind bytes -/
def crcN (l : List Int) (n : Nat) : Nat := l.foldl (fun m c => s8 (m ^^^ c.toNat)) n
theorem crcN_lt {l : List Int} (hl : Args.Bytes l) : ∀ {n : Nat}, n < 4294967296 → crcN l n < 4294967296 := by
  induction l with
  | nil => exact fun h => h
  | cons c r ih =>
    intro n h
    have hc := hl c (List.mem_cons_self ..)
    exact ih (fun b hb => hl b (List.mem_cons_of_mem _ hb)) (s8_lt (xor_lt h (by omega)))
theorem foldJ_nat {l : List Int} (hl : Args.Bytes l) : ∀ {n : Nat}, n < 4294967296 → l.foldl byteJ (n : Int) = (crcN l n : Int) := by
  induction l with
  | nil => exact fun _ => rfl
  | cons c r ih =>
    intro n h
    have hc := hl c (List.mem_cons_self ..)
    obtain ⟨m, rfl⟩ := Int.eq_ofNat_of_zero_le hc.1
    rw [List.foldl_cons, byteJ_nat n m h (by omega), ih (fun b hb => hl b (List.mem_cons_of_mem _ hb)) (s8_lt (xor_lt h (by omega)))]
    rfl
theorem crcJ_nat {l : List Int} (hl : Args.Bytes l) : crcJ l = ((4294967295 ^^^ crcN l 4294967295 : Nat) : Int) := by
  unfold crcJ
  rw [show (4294967295 : Int) = ((4294967295 : Nat) : Int) from rfl, foldJ_nat hl (by omega), xor_nat _ _ (by omega) (crcN_lt hl (by omega))]
theorem not_sub (n : Nat) (h : n < 4294967296) : 4294967295 ^^^ n = 4294967295 - n := by
  apply Nat.eq_of_testBit_eq
  intro i
  rw [Nat.testBit_xor]
  have h1 := Nat.testBit_two_pow_sub_succ (n := 32) (x := n) (by omega) i
  rw [show 2 ^ 32 - (n + 1) = 4294967295 - n by omega] at h1
  rw [h1]
  have h2 : Nat.testBit 4294967295 i = decide (i < 32) := Nat.testBit_two_pow_sub_one 32 i
  rw [h2]
  by_cases hi : i < 32
  · simp [hi]
  · have : n.testBit i = false := Nat.testBit_lt_two_pow (Nat.lt_of_lt_of_le h (Nat.pow_le_pow_right (show 0 < 2 by decide) (show 32 ≤ i by omega)))
    simp [hi, this]
/-! the reference's sum, bit by bit -/
def sK : Nat → Nat → Nat
  | 0, n => n
  | m + 1, n => sK m (sN n)
theorem low_split (y : Nat) : y = (2 * (y / 2)) ^^^ (y % 2) := by
  apply Nat.eq_of_testBit_eq
  intro i
  rw [Nat.testBit_xor]
  cases i with
  | zero =>
    simp only [Nat.testBit_zero]
    rcases Nat.mod_two_eq_zero_or_one y with h | h <;> simp [h]
  | succ i =>
    have h1 : (y % 2).testBit (i + 1) = false := Nat.testBit_lt_two_pow (Nat.lt_of_lt_of_le (show y % 2 < 2 ^ 1 by omega) (Nat.pow_le_pow_right (show 0 < 2 by decide) (by omega)))
    have h2 : (2 * (y / 2)).testBit (i + 1) = y.testBit (i + 1) := by
      rw [Nat.testBit_succ, Nat.testBit_succ, show 2 * (y / 2) / 2 = y / 2 by omega]
    rw [h1, h2]; simp
theorem bit_step (m x y : Nat) : sK m (sN (x ^^^ (y % 2)) ^^^ (y / 2)) = sK (m + 1) (x ^^^ y) := by
  have h : sN (x ^^^ y) = sN (x ^^^ (y % 2)) ^^^ (y / 2) := by
    conv => lhs; rw [low_split y]
    rw [show x ^^^ (2 * (y / 2) ^^^ y % 2) = (x ^^^ (y % 2)) ^^^ (2 * (y / 2)) by rw [Nat.xor_comm (2 * (y / 2)), Nat.xor_assoc], sN_xor, sN_double]
  show _ = sK m (sN (x ^^^ y))
  rw [h]
theorem sN_bit (n b : Nat) (hb : b < 2) : sN (n ^^^ b) = (n / 2) ^^^ (if b = n % 2 then 0 else 3988292384) := by
  unfold sN
  rw [xor_div2, xor_mod2, show b / 2 = 0 by omega, Nat.xor_zero]
  by_cases h : b = n % 2
  · rw [if_pos h, if_neg (by omega)]
  · rw [if_neg h, if_pos (by omega)]
theorem shr_nat (c j : Nat) (hj : j ≤ 8) : shr .u32 (c : Int) (j : Int) = ((c / 2 ^ j : Nat) : Int) := by
  unfold shr
  rw [show min (j : Int).toNat IntKind.u32.bits = j by simp [IntKind.bits]; omega]
  push_cast
  rfl
theorem and1_nat (n : Nat) (h : n < 4294967296) : Go.bits .and .u32 (n : Int) 1 = ((n % 2 : Nat) : Int) := by
  have := bits_mask .u32 32 (by decide) wraps_u32 1 (by decide) (n : Int) (by omega) (by omega)
  simpa using this
theorem rsum_bits (l : List Int) (i c : Nat) (hi : i < l.length) (hc : rd l (i : Int) = (c : Int)) (hc8 : c < 256) : ∀ (d j n k : Nat), j + d = 8 → n < 4294967296 → noonmarkref29_Sum.l1 (k + d + 1) l (n : Int) (i : Int) (j : Int) = noonmarkref29_Sum.l0 k l (sK d (n ^^^ (c / 2 ^ j)) : Int) (wrap64 ((i : Int) + 1)) := by
  intro d
  induction d with
  | zero =>
    intro j n k hj hn
    obtain rfl : j = 8 := by omega
    conv => lhs; unfold noonmarkref29_Sum.l1
    rw [if_neg (by omega), show c / 2 ^ 8 = 0 by omega, Nat.xor_zero]
    rfl
  | succ d ih =>
    intro j n k hj hn
    have hcj : c / 2 ^ j < 4294967296 := Nat.lt_of_le_of_lt (Nat.div_le_self _ _) (by omega)
    conv => lhs; unfold noonmarkref29_Sum.l1
    rw [if_pos (by omega), if_pos (by omega), if_pos (by omega), if_pos (by omega), hc, show (c : Int) % 4294967296 = (c : Int) by omega, shr_nat c j (by omega), and1_nat _ hcj, and1_nat n hn, w64_succ j 8 (by omega) (by omega)]
    have e2 : (n : Int) / 2 = ((n / 2 : Nat) : Int) := by omega
    have key : sK d (sN (n ^^^ (c / 2 ^ j % 2)) ^^^ (c / 2 ^ (j + 1))) = sK (d + 1) (n ^^^ (c / 2 ^ j)) := by
      rw [show c / 2 ^ (j + 1) = c / 2 ^ j / 2 by rw [Nat.pow_succ, Nat.div_div_eq_div_mul]]
      exact bit_step d n (c / 2 ^ j)
    rw [← key, sN_bit n _ (by omega), e2]
    by_cases hb : c / 2 ^ j % 2 = n % 2
    · rw [if_pos (by rw [hb]), if_pos hb, Nat.xor_zero]
      exact ih (j + 1) (n / 2) k (by omega) (by omega)
    · rw [if_neg (by omega), if_neg hb, show (3988292384 : Int) = ((3988292384 : Nat) : Int) from rfl, xor_nat _ _ (by omega) (by omega)]
      exact ih (j + 1) _ k (by omega) (xor_lt (by omega) (by omega))
theorem rsum_loop (l : List Int) (hl : l.length ≤ 9223372036854775807) (hB : Args.Bytes l) : ∀ (d i n k : Nat), l.length - i = d → i ≤ l.length → n < 4294967296 → 10 * d < k → noonmarkref29_Sum.l0 k l (n : Int) (i : Int) = some ((4294967295 - (crcN (l.drop i) n : Int)) % 4294967296) := by
  intro d
  induction d with
  | zero =>
    intro i n k hd hi hn hk
    obtain ⟨k, rfl⟩ : ∃ m, k = m + 1 := ⟨k - 1, by omega⟩
    conv => lhs; unfold noonmarkref29_Sum.l0
    rw [if_neg (by omega), List.drop_of_length_le (by omega)]
    rfl
  | succ d ih =>
    intro i n k hd hi hn hk
    obtain ⟨k, rfl⟩ : ∃ m, k = m + 8 + 1 + 1 := ⟨k - 10, by omega⟩
    have hil : i < l.length := by omega
    have hb := hB l[i] (List.getElem_mem hil)
    obtain ⟨c, hc⟩ := Int.eq_ofNat_of_zero_le hb.1
    have hc' : rd l (i : Int) = (c : Int) := by rw [rd_at l i hil, hc]
    conv => lhs; unfold noonmarkref29_Sum.l0
    rw [if_pos (by omega), zero_nat, rsum_bits l i c hil hc' (by omega) 8 0 n k (by omega) hn, w64_succ i l.length hil hl]
    have h8 : sK 8 (n ^^^ c / 2 ^ 0) < 4294967296 := by
      have : sK 8 (n ^^^ c / 2 ^ 0) = s8 (n ^^^ c) := by rw [Nat.pow_zero, Nat.div_one]; rfl
      rw [this]
      exact s8_lt (xor_lt hn (by omega))
    rw [ih (i + 1) _ k (by omega) (by omega) h8 (by omega)]
    rw [List.drop_eq_getElem_cons hil]
    have : sK 8 (n ^^^ c / 2 ^ 0) = s8 (n ^^^ l[i].toNat) := by rw [Nat.pow_zero, Nat.div_one, hc]; rfl
    rw [this]
    rfl
/-- the reference's sum is the program's -/
theorem rsum_ev (l : List Int) (hl : l.length ≤ 9223372036854775807) (hB : Args.Bytes l) (k : Nat) (hk : 10 * l.length < k) : noonmarkref29_Sum.f k l = some (crcJ l) := by
  unfold noonmarkref29_Sum.f
  rw [zero_nat, show (4294967295 : Int) = ((4294967295 : Nat) : Int) from rfl, rsum_loop l hl hB l.length 0 4294967295 k (by omega) (by omega) (by omega) hk, List.drop_zero, crcJ_nat hB, not_sub _ (crcN_lt hB (by omega))]
  have := crcN_lt hB (show (4294967295 : Nat) < 4294967296 by omega)
  congr 1
  omega
theorem crcJ_range (l : List Int) : 0 ≤ crcJ l ∧ crcJ l < 4294967296 := bits32_range .xor _ _
end Go.Proofs.Ytmcdpgopjfpjeaa.S
