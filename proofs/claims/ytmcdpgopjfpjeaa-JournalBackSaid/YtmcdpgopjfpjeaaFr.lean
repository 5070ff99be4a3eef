/- Frames: the program's and the document's are one; and what is read of any bytes. -/
import Derived.Test.YtmcdpgopjfpjeaaCrc
namespace Go.Proofs.Ytmcdpgopjfpjeaa.S
open Go.RowKit Go.Proofs.YtmcdpgopjfpjeaaW.PrintWords Go.Proofs.YtmcdpgopjfpjeaaW.PrintLast Go.Proofs.YtmcdpgopjfpjeaaW.PrintMore
set_option linter.unusedVariables false
set_option linter.unusedSimpArgs false
/-- a number in four bytes -/
def le4 (n : Int) : List Int := [n % 256, n / 256 % 256, n / 65536 % 256, n / 16777216 % 256]
theorem le4_len (n : Int) : (le4 n).length = 4 := rfl
theorem le4_bytes (n : Int) : Args.Bytes (le4 n) := by
  intro b hb
  simp only [le4, List.mem_cons, List.not_mem_nil, or_false] at hb
  rcases hb with rfl | rfl | rfl | rfl <;> omega
/-- what a sum is taken of -/
def bodyJ (a : Int) (x : List Int) : List Int := [165, a % 256] ++ le4 ((x.length : Int) % 4294967296) ++ x
def frameJ (a : Int) (x : List Int) : List Int := bodyJ a x ++ le4 (crcJ (bodyJ a x))
theorem bodyJ_len (a : Int) (x : List Int) : (bodyJ a x).length = x.length + 6 := by unfold bodyJ; simp [le4_len]; omega
theorem frameJ_len (a : Int) (x : List Int) : (frameJ a x).length = x.length + 10 := by unfold frameJ; rw [List.length_append, bodyJ_len, le4_len]
theorem bodyJ_bytes {a : Int} {x : List Int} (hx : Args.Bytes x) : Args.Bytes (bodyJ a x) := by
  intro b hb
  unfold bodyJ at hb
  rcases List.mem_append.1 hb with h | h
  · rcases List.mem_append.1 h with h | h
    · simp only [List.mem_cons, List.not_mem_nil, or_false] at h; rcases h with rfl | rfl <;> omega
    · exact le4_bytes _ b h
  · exact hx b h
theorem frameJ_bytes {a : Int} {x : List Int} (hx : Args.Bytes x) : Args.Bytes (frameJ a x) := by
  intro b hb
  unfold frameJ at hb
  rcases List.mem_append.1 hb with h | h
  · exact bodyJ_bytes hx b h
  · exact le4_bytes _ b h
theorem put_ev (l : List Int) (n : Int) (h : l.length ≤ 1000000000) : journal_put.f l n = some (l ++ le4 n) := by
  unfold journal_put.f
  rw [Option.bind_some, if_pos (by simp; omega)]
  rfl
/-- is it framed? -/
def okJ (a : Int) (x : List Int) : Bool := decide (0 ≤ a ∧ a ≤ 255 ∧ x.length ≤ 100000)
theorem okJ_spec {a : Int} {x : List Int} : okJ a x = true ↔ (0 ≤ a ∧ a ≤ 255 ∧ x.length ≤ 100000) := by unfold okJ; exact decide_eq_true_iff
def framedJ (a : Int) (x : List Int) : List Int × Int := if okJ a x = true then (frameJ a x, 0) else ([], 1)
theorem pframe_ev (a : Int) (x : List Int) (k : Nat) (hk : 4 * x.length + 40 < k) : journal_Frame.f k a x = some (framedJ a x) := by
  obtain ⟨k, rfl⟩ : ∃ m, k = m + 1 := ⟨k - 1, by omega⟩
  unfold journal_Frame.f framedJ
  by_cases h : okJ a x = true
  · obtain ⟨h0, h1, h2⟩ := okJ_spec.1 h
    rw [if_pos (by omega), decide_eq_false (by omega), if_pos h]
    simp only [journal_Frame.j0]
    rw [if_neg (by decide), put_ev _ _ (by simp), Option.bind_some, if_pos (by simp [le4_len]; omega), Option.bind_some]
    have hb : [165, a % 256] ++ le4 ((x.length : Int) % 4294967296) ++ x = bodyJ a x := rfl
    rw [hb, sum_ev _ (by rw [bodyJ_len]; omega) k (by rw [bodyJ_len]; omega), Option.bind_some, put_ev _ _ (by rw [bodyJ_len]; omega), Option.bind_some]
    rfl
  · rw [if_neg h]
    have h' : ¬ (0 ≤ a ∧ a ≤ 255 ∧ x.length ≤ 100000) := fun e => h (okJ_spec.2 e)
    by_cases ha : a = a % 256
    · rw [if_pos ha, decide_eq_true (by omega)]
      simp only [journal_Frame.j0]; rw [if_pos trivial]
    · rw [if_neg ha]
      simp only [journal_Frame.j0]; rw [if_pos trivial]
theorem and255 (n : Int) (h0 : 0 ≤ n) (h1 : n < 4294967296) : Go.bits .and .u32 n 255 = n % 256 := by
  have := bits_mask .u32 32 (by decide) wraps_u32 8 (by decide) n h0 (by omega)
  simpa using this
theorem four_ev (n : Int) (h0 : 0 ≤ n) (h1 : n < 4294967296) : noonmarkref29_four.f n = some (le4 n) := by
  unfold noonmarkref29_four.f le4
  rw [and255 n h0 h1, and255 _ (by omega) (by omega), and255 _ (by omega) (by omega)]
  have e : ∀ m : Int, m % 256 % 256 = m % 256 := fun m => by omega
  rw [e, e, e]
theorem rframe_ev (a : Int) (x : List Int) (hx : Args.Bytes x) (k : Nat) (hk : 10 * x.length + 100 < k) : noonmarkref29_Frame.f k a x = some (framedJ a x) := by
  obtain ⟨k, rfl⟩ : ∃ m, k = m + 1 := ⟨k - 1, by omega⟩
  unfold noonmarkref29_Frame.f framedJ
  by_cases h : okJ a x = true
  · obtain ⟨h0, h1, h2⟩ := okJ_spec.1 h
    rw [if_neg (by omega), if_neg (by omega), decide_eq_false (by omega), if_pos h]
    simp only [noonmarkref29_Frame.j0]
    rw [if_neg (by decide), Option.bind_some, four_ev _ (by omega) (by omega), Option.bind_some, if_pos (by simp [le4_len]), Option.bind_some, if_pos (by simp [le4_len]; omega), Option.bind_some]
    have hb : [165, a % 256] ++ le4 ((x.length : Int) % 4294967296) ++ x = bodyJ a x := rfl
    have hr := crcJ_range (bodyJ a x)
    rw [hb, rsum_ev _ (by rw [bodyJ_len]; omega) (bodyJ_bytes hx) k (by rw [bodyJ_len]; omega), Option.bind_some, four_ev _ hr.1 hr.2, Option.bind_some, if_pos (by rw [bodyJ_len, le4_len]; omega)]
    rfl
  · rw [if_neg h]
    have h' : ¬ (0 ≤ a ∧ a ≤ 255 ∧ x.length ≤ 100000) := fun e => h (okJ_spec.2 e)
    by_cases h1 : a < 0
    · rw [if_pos h1]; simp only [noonmarkref29_Frame.j0]; rw [if_pos trivial]
    · rw [if_neg h1]
      by_cases h2 : a > 255
      · rw [if_pos h2]; simp only [noonmarkref29_Frame.j0]; rw [if_pos trivial]
      · rw [if_neg h2, decide_eq_true (by omega)]; simp only [noonmarkref29_Frame.j0]; rw [if_pos trivial]
/-! numbers of four bytes -/
theorem shl_nat (y s : Nat) (hs : s ≤ 24) (hy : y < 256) : shl .u32 ((y : Int) % 4294967296) (s : Int) = ((y * 2 ^ s : Nat) : Int) := by
  have hp : 2 ^ s ≤ 2 ^ 24 := Nat.pow_le_pow_right (by decide) hs
  have hm : y * 2 ^ s < 2 ^ 32 := by
    have : y * 2 ^ s ≤ 255 * 2 ^ 24 := Nat.mul_le_mul (by omega) hp
    omega
  unfold shl
  rw [show min (s : Int).toNat IntKind.u32.bits = s by simp [IntKind.bits]; omega, show (y : Int) % 4294967296 = (y : Int) by omega]
  rw [wraps_u32 _ (by exact_mod_cast Nat.zero_le (y * 2 ^ s)) (by exact_mod_cast hm)]
  push_cast
  rfl
theorem or_add (a b s : Nat) (ha : a < 2 ^ s) (hs : s ≤ 24) (hb : b < 256) : Go.bits .or .u32 (a : Int) ((b * 2 ^ s : Nat) : Int) = ((a + b * 2 ^ s : Nat) : Int) := by
  have hp : 2 ^ s ≤ 2 ^ 24 := Nat.pow_le_pow_right (by decide) hs
  have hm : b * 2 ^ s ≤ 255 * 2 ^ 24 := Nat.mul_le_mul (by omega) hp
  have e24 : 2 ^ 24 = 16777216 := rfl
  rw [e24] at hp hm
  rw [or_nat a (b * 2 ^ s) (by omega) (by omega)]
  congr 1
  rw [Nat.or_comm, Nat.mul_comm b, ← Nat.two_pow_add_eq_or_of_lt ha b, Nat.add_comm]
/-- four bytes as a number -/
def num4 (a b c d : Int) : Int := a + 256 * b + 65536 * c + 16777216 * d
theorem numJ_val (l : List Int) (h0 : 0 ≤ rd l 0 ∧ rd l 0 ≤ 255) (h1 : 0 ≤ rd l 1 ∧ rd l 1 ≤ 255) (h2 : 0 ≤ rd l 2 ∧ rd l 2 ≤ 255) (h3 : 0 ≤ rd l 3 ∧ rd l 3 ≤ 255) : numJ l = num4 (rd l 0) (rd l 1) (rd l 2) (rd l 3) := by
  unfold numJ num4
  obtain ⟨a, ha⟩ := Int.eq_ofNat_of_zero_le h0.1
  obtain ⟨b, hb⟩ := Int.eq_ofNat_of_zero_le h1.1
  obtain ⟨c, hc⟩ := Int.eq_ofNat_of_zero_le h2.1
  obtain ⟨d, hd⟩ := Int.eq_ofNat_of_zero_le h3.1
  rw [ha] at h0 ⊢; rw [hb] at h1 ⊢; rw [hc] at h2 ⊢; rw [hd] at h3 ⊢
  have o0 : orSh 0 (a : Int) 0 = ((a : Nat) : Int) := by
    unfold orSh
    have := shl_nat a 0 (by omega) (by omega)
    rw [show ((0 : Nat) : Int) = 0 from rfl] at this
    rw [this, show (0 : Int) = ((0 : Nat) : Int) from rfl, or_nat 0 _ (by omega) (by omega)]
    simp
  have o1 : orSh (a : Int) (b : Int) 8 = ((a + b * 2 ^ 8 : Nat) : Int) := by
    unfold orSh
    have := shl_nat b 8 (by omega) (by omega)
    rw [show ((8 : Nat) : Int) = 8 from rfl] at this
    rw [this, or_add a b 8 (by omega) (by omega) (by omega)]
  have o2 : orSh ((a + b * 2 ^ 8 : Nat) : Int) (c : Int) 16 = ((a + b * 2 ^ 8 + c * 2 ^ 16 : Nat) : Int) := by
    unfold orSh
    have := shl_nat c 16 (by omega) (by omega)
    rw [show ((16 : Nat) : Int) = 16 from rfl] at this
    rw [this, or_add _ c 16 (by omega) (by omega) (by omega)]
  have o3 : orSh ((a + b * 2 ^ 8 + c * 2 ^ 16 : Nat) : Int) (d : Int) 24 = ((a + b * 2 ^ 8 + c * 2 ^ 16 + d * 2 ^ 24 : Nat) : Int) := by
    unfold orSh
    have := shl_nat d 24 (by omega) (by omega)
    rw [show ((24 : Nat) : Int) = 24 from rfl] at this
    rw [this, or_add _ d 24 (by omega) (by omega) (by omega)]
  rw [o0, o1, o2, o3]
  omega
theorem bytes_rd {l : List Int} (h : Args.Bytes l) (i : Int) : 0 ≤ rd l i ∧ rd l i ≤ 255 := by
  unfold rd
  rw [List.getD_eq_getElem?_getD]
  rcases Nat.lt_or_ge i.toNat l.length with hi | hi
  · rw [List.getElem?_eq_getElem hi]; exact h _ (List.getElem_mem hi)
  · rw [List.getElem?_eq_none hi]; simp
theorem bytes_take {l : List Int} (h : Args.Bytes l) (n : Nat) : Args.Bytes (l.take n) := fun b hb => h b (List.mem_of_mem_take hb)
theorem bytes_drop {l : List Int} (h : Args.Bytes l) (n : Nat) : Args.Bytes (l.drop n) := fun b hb => h b (List.mem_of_mem_drop hb)
theorem bytes_append {l m : List Int} (h : Args.Bytes l) (h' : Args.Bytes m) : Args.Bytes (l ++ m) := fun b hb => (List.mem_append.1 hb).elim (h b) (h' b)
theorem numJ_bytes {l : List Int} (h : Args.Bytes l) : numJ l = num4 (rd l 0) (rd l 1) (rd l 2) (rd l 3) := numJ_val l (bytes_rd h 0) (bytes_rd h 1) (bytes_rd h 2) (bytes_rd h 3)
theorem num4_le4 (n : Int) (h0 : 0 ≤ n) (h1 : n < 4294967296) : num4 (n % 256) (n / 256 % 256) (n / 65536 % 256) (n / 16777216 % 256) = n := by unfold num4; omega
theorem le4_num4 (a b c d : Int) (ha : 0 ≤ a ∧ a ≤ 255) (hb : 0 ≤ b ∧ b ≤ 255) (hc : 0 ≤ c ∧ c ≤ 255) (hd : 0 ≤ d ∧ d ≤ 255) : le4 (num4 a b c d) = [a, b, c, d] := by
  unfold le4 num4
  congr 1
  · omega
  congr 1
  · omega
  congr 1
  · omega
  congr 1
  omega
theorem numJ_le4 (n : Int) (h0 : 0 ≤ n) (h1 : n < 4294967296) : numJ (le4 n) = n := by
  rw [numJ_bytes (le4_bytes n)]
  exact num4_le4 n h0 h1
theorem list4 {l : List Int} (h : l.length = 4) : l = [rd l 0, rd l 1, rd l 2, rd l 3] := by
  match l, h with
  | [a, b, c, d], _ => rfl
theorem le4_numJ {l : List Int} (hB : Args.Bytes l) (h : l.length = 4) : le4 (numJ l) = l := by
  rw [numJ_bytes hB, le4_num4 _ _ _ _ (bytes_rd hB 0) (bytes_rd hB 1) (bytes_rd hB 2) (bytes_rd hB 3)]
  exact (list4 h).symm
theorem numJ_eq {l : List Int} (hB : Args.Bytes l) (h : l.length = 4) (n : Int) (h0 : 0 ≤ n) (h1 : n < 4294967296) : numJ l = n ↔ l = le4 n :=
  ⟨fun e => by rw [← e, le4_numJ hB h], fun e => by rw [e, numJ_le4 n h0 h1]⟩
/-! two slices' bytes, alike or not -/
theorem same01_loop2 (l m : List Int) (hlm : l.length = m.length) (hl : l.length ≤ 9223372036854775807) : ∀ (d i k : Nat), l.length - i = d → i ≤ l.length → d < k → noonmarkref01_Same.l0 k l m (i : Int) = some (decide (l.drop i = m.drop i)) := by
  intro d
  induction d with
  | zero =>
    intro i k hd hi hk
    obtain ⟨k, rfl⟩ : ∃ m, k = m + 1 := ⟨k - 1, by omega⟩
    conv => lhs; unfold noonmarkref01_Same.l0
    rw [if_neg (by omega), List.drop_of_length_le (by omega), List.drop_of_length_le (by omega)]
    simp
  | succ d ih =>
    intro i k hd hi hk
    obtain ⟨k, rfl⟩ : ∃ m, k = m + 1 := ⟨k - 1, by omega⟩
    conv => lhs; unfold noonmarkref01_Same.l0
    rw [if_pos (by omega), if_pos (by omega), if_pos (by omega), rd_at l i (by omega), rd_at m i (by omega), w64_succ i l.length (by omega) hl, List.drop_eq_getElem_cons (show i < l.length by omega), List.drop_eq_getElem_cons (show i < m.length by omega)]
    by_cases h : l[i]'(by omega) = m[i]'(by omega)
    · rw [if_pos h, ih (i + 1) k (by omega) (by omega) (by omega)]
      congr 1
      rw [Bool.eq_iff_iff, decide_eq_true_iff, decide_eq_true_iff, List.cons.injEq]
      exact ⟨fun e => ⟨h, e⟩, fun e => e.2⟩
    · rw [if_neg h]
      congr 1
      exact (decide_eq_false (fun e => h (List.cons.inj e).1)).symm
theorem same01_ev (l m : List Int) (hl : l.length ≤ 9223372036854775807) (k : Nat) (hk : l.length < k) : noonmarkref01_Same.f k l m = some (decide (l = m)) := by
  unfold noonmarkref01_Same.f
  by_cases h : (l.length : Int) = (m.length : Int)
  · rw [if_pos h, zero_nat, same01_loop2 l m (by omega) hl l.length 0 k (by omega) (by omega) hk]
    simp
  · rw [if_neg h]
    congr 1
    exact (decide_eq_false (fun e => h (by rw [e]))).symm
end Go.Proofs.Ytmcdpgopjfpjeaa.S
