/- Int and ParseInt, the program's and the reference's: both are what the lists of digits say. -/
import Derived.Test.YtmohadimhapacaaPlainC
import Derived.Test.YtmohadimhapacaaS8
import Derived.Test.YtmohadimhapacaaS9
import Derived.Test.YtmohadimhapacaaS10
namespace Go.Proofs.Ytmohadimhapacaa.Plain
open Go.RowKit Go.Proofs.Ytmohadimhapacaa.S Go.Proofs.YtmohadimhapacaaW.PrintWords Go.Proofs.YtmohadimhapacaaW.PrintLast
set_option linter.unusedVariables false
set_option linter.unusedSimpArgs false

theorem hasPrefix_f (a b : ByteArray) : strings_HasPrefix.f a b = some (decide (bl b <+: bl a)) := by
  unfold strings_HasPrefix.f stringslite_HasPrefix.f
  by_cases h : b.size ≤ a.size
  · rw [if_pos (by omega), if_pos (by omega), if_pos (by omega), Option.bind_some]
    congr 1
    rw [Bool.eq_iff_iff, beq_iff_eq, toList_iff, decide_eq_true_iff, Int.toNat_natCast]
    rw [List.prefix_iff_eq_take, bl_len, ← bl_upto]
    exact ⟨fun h => by rw [h], fun h => (bl_inj h).symm⟩
  · rw [if_neg (by omega), Option.bind_some]
    congr 1
    rw [eq_comm, decide_eq_false_iff_not]
    intro hp
    have := hp.length_le
    rw [bl_len, bl_len] at this
    exact h this
theorem litePrefix_f (a b : ByteArray) : stringslite_HasPrefix.f a b = some (decide (bl b <+: bl a)) := by
  have := hasPrefix_f a b
  unfold strings_HasPrefix.f at this
  cases h : stringslite_HasPrefix.f a b with
  | none => rw [h] at this; cases this
  | some x => rw [h, Option.bind_some] at this; exact this
theorem cut_f (a b : ByteArray) : strings_CutPrefix.f a b = some (if bl b <+: bl a then (a.extract b.size a.size, true) else (a, false)) := by
  unfold strings_CutPrefix.f stringslite_CutPrefix.f
  rw [litePrefix_f, Option.bind_some]
  by_cases h : bl b <+: bl a
  · have := h.length_le
    rw [bl_len, bl_len] at this
    rw [if_pos (decide_eq_true h), if_pos (by omega), if_pos (by omega), if_pos h]; rfl
  · rw [if_neg (by simpa using h), if_neg h]; rfl
theorem nil_iff (b : ByteArray) : b.toList = [] ↔ bl b = [] := by
  rw [ByteArray.toList_eq]; simp [bl]
theorem is_iff (b : ByteArray) (l : List UInt8) : b.toList = l ↔ bl b = l.map fun c => (c.toNat : Int) := by
  rw [ByteArray.toList_eq]
  constructor
  · rintro rfl; rfl
  · intro h
    have e : bl b = bl ⟨l.toArray⟩ := h
    have := bl_inj e
    rw [this]

def dig (c : Int) : Bool := decide (48 ≤ c) && decide (c ≤ 57)
theorem dig_iff (c : Int) : dig c = true ↔ 48 ≤ c ∧ c ≤ 57 := by simp [dig]
def vl (u : Int) : List Int → Int
  | [] => u
  | c :: r => vl (u * 10 + (c - 48)) r
theorem vl_nil (u : Int) : vl u [] = u := rfl
theorem vl_cons (u c : Int) (r : List Int) : vl u (c :: r) = vl (u * 10 + (c - 48)) r := rfl
def most (low : Bool) : Int := if low = true then 9223372036854775808 else 9223372036854775807
def sg (low : Bool) (v : Int) : Int := if low = true then -v else v
theorem vl_mono (l : List Int) : l.all dig = true → ∀ u, 0 ≤ u → u ≤ vl u l := by
  induction l with
  | nil => intro _ u _; exact Int.le_refl u
  | cons c r ih =>
    intro h u hu
    rw [List.all_cons, Bool.and_eq_true, dig_iff] at h
    have := ih h.2 (u * 10 + (c - 48)) (by omega)
    simp only [vl]; omega
theorem vl_pow (l : List Int) : l.all dig = true → ∀ u, 0 ≤ u → u * 10 ^ l.length ≤ vl u l := by
  induction l with
  | nil => intro _ u _; simp [vl]
  | cons c r ih =>
    intro h u hu
    rw [List.all_cons, Bool.and_eq_true, dig_iff] at h
    have h1 := ih h.2 (u * 10 + (c - 48)) (by omega)
    simp only [vl, List.length_cons]
    have h2 : u * 10 * 10 ^ r.length ≤ (u * 10 + (c - 48)) * 10 ^ r.length := Int.mul_le_mul_of_nonneg_right (by omega) (Int.pow_nonneg (by decide))
    have h3 : u * 10 ^ (r.length + 1) = u * 10 * 10 ^ r.length := by rw [Int.pow_succ, Int.mul_comm (10 ^ r.length) 10, Int.mul_assoc]
    omega
theorem vl_snoc (l : List Int) (c : Int) : ∀ u, vl u (l ++ [c]) = vl u l * 10 + (c - 48) := by
  induction l with
  | nil => intro u; rfl
  | cons x r ih => intro u; simp only [List.cons_append, vl]; exact ih _
def bad (low : Bool) : List Int → Bool
  | [] => true
  | c :: r => c == 48 && (!r.isEmpty || low)
def fine (low : Bool) (t : List Int) : Int × Int := if t.all dig = true then (if most low < vl 0 t then (0, 2) else (sg low (vl 0 t), 0)) else (0, 3)
def pbody (low : Bool) (t : List Int) : Int × Int := if bad low t = true then (0, 3) else fine low t
def pI : List Int → Int × Int
  | [] => pbody false []
  | c :: r => if c = 45 then pbody true r else pbody false (c :: r)

theorem most_le (low : Bool) : 9223372036854775807 ≤ most low ∧ most low ≤ 9223372036854775808 := by cases low <;> decide
theorem u64e (x : Int) : IntKind.u64.wrap x = x % 18446744073709551616 := by simp [IntKind.wrap, IntKind.bits, IntKind.signed]
theorem pi_l0 (t : ByteArray) (ht : t.size ≤ 100000) (low : Bool) : ∀ (m i : Nat) (u : Int) (over : Bool) (K : Nat), i + m = t.size → (over = false → 0 ≤ u ∧ u ≤ most low) → m + 1 ≤ K →
    escape_ParseInt.l0 K t low (most low) u over (t.size : Int) (i : Int) = some (if ((bl t).drop i).all dig = true then (if over = true then (0, 2) else if most low < vl u ((bl t).drop i) then (0, 2) else (sg low (vl u ((bl t).drop i)), 0)) else (0, 3)) := by
  have hm := most_le low
  intro m
  induction m with
  | zero =>
    intro i u over K hi hu hK
    obtain ⟨K, rfl⟩ : ∃ q, K = q + 1 := ⟨K - 1, by omega⟩
    simp only [escape_ParseInt.l0]
    rw [if_neg (by omega), bl_end t i (by omega)]
    cases over with
    | true => rfl
    | false =>
      obtain ⟨h0, h1⟩ := hu rfl
      have e : (if ([] : List Int).all dig = true then (if false = true then ((0, 2) : Int × Int) else if most low < vl u [] then (0, 2) else (sg low (vl u []), 0)) else (0, 3)) = (sg low u, 0) := by
        rw [if_pos (show ([] : List Int).all dig = true from rfl), if_neg (show ¬ (false = true) by decide)]
        exact if_neg (show ¬ most low < u by omega)
      rw [if_neg (show ¬ (false = true) by decide), e]
      cases low with
      | true =>
        rw [if_pos rfl, u64e]
        simp only [most, if_true] at h1
        have : wrap64 (-u % 18446744073709551616) = -u := by unfold wrap64; omega
        rw [this]; rfl
      | false =>
        rw [if_neg (by decide)]
        simp only [most, Bool.false_eq_true, if_false] at h1
        rw [w64 (by omega) (by omega)]; rfl
  | succ m ih =>
    intro i u over K hi hu hK
    obtain ⟨K, rfl⟩ : ∃ q, K = q + 1 := ⟨K - 1, by omega⟩
    have hb := bt_byte t i
    simp only [escape_ParseInt.l0]
    rw [if_pos (by omega), if_pos (by omega), if_pos (by omega), bl_drop t i (by omega), List.all_cons]
    by_cases hd : (bt t i - 48) % 256 > 9
    · rw [if_pos hd]
      have : dig (bt t i) = false := by rw [← Bool.not_eq_true, dig_iff]; omega
      rw [this, Bool.false_and, if_neg (by decide)]
    · rw [if_neg hd]
      have hdg : dig (bt t i) = true := by rw [dig_iff]; omega
      have hde : (bt t i - 48) % 256 = bt t i - 48 := by omega
      have hd0 : 48 ≤ bt t i ∧ bt t i ≤ 57 := (dig_iff _).1 hdg
      rw [hdg, Bool.true_and, hde, w64 (by omega) (by omega), show ((i : Int) + 1) = ((i + 1 : Nat) : Int) by omega]
      rw [vl_cons]
      cases over with
      | true =>
        rw [if_pos rfl, ih (i + 1) u true K (by omega) (fun h => by cases h) (by omega)]
        rfl
      | false =>
        obtain ⟨h0, h1⟩ := hu rfl
        rw [if_neg (by decide)]
        have hq : IntKind.u64.wrap (Int.tdiv (IntKind.u64.wrap (most low - (bt t i - 48))) 10) = (most low - (bt t i - 48)) / 10 := by
          rw [IntWalk.u64_in (most low - (bt t i - 48)) (by omega)]
          exact IntWalk.u64_quo _ 10 (by omega)
        rw [hq]
        by_cases hc : u > (most low - (bt t i - 48)) / 10
        · rw [if_pos hc, decide_eq_true hc, ih (i + 1) u true K (by omega) (fun h => by cases h) (by omega)]
          by_cases hall : ((bl t).drop (i + 1)).all dig = true
          · rw [if_pos hall, if_pos hall]
            have := vl_mono _ hall (u * 10 + (bt t i - 48)) (by omega)
            rw [if_pos (show true = true from rfl), if_neg (show ¬ (false = true) by decide), if_pos (by omega)]
          · rw [if_neg hall, if_neg hall]
        · rw [if_neg hc, decide_eq_false hc]
          have e1 : IntKind.u64.wrap (u * 10) = u * 10 := IntWalk.u64_in _ (by omega)
          rw [e1, IntWalk.u64_in (u * 10 + (bt t i - 48)) (by omega)]
          rw [ih (i + 1) (u * 10 + (bt t i - 48)) false K (by omega) (fun _ => by omega) (by omega)]
theorem pi_j0 (t : ByteArray) (ht : t.size ≤ 100000) (low b : Bool) (K : Nat) (hK : t.size + 3 ≤ K) :
    escape_ParseInt.j0 K t low b = some (if b = true then (0, 3) else fine low (bl t)) := by
  obtain ⟨K, rfl⟩ : ∃ q, K = q + 1 + 1 := ⟨K - 2, by omega⟩
  simp only [escape_ParseInt.j0, escape_ParseInt.j1]
  cases b with
  | true => rfl
  | false =>
    rw [if_neg (show ¬ (false = true) by decide), if_neg (show ¬ (false = true) by decide)]
    have := pi_l0 t ht low t.size 0 0 false K (by omega) (fun _ => by have := most_le low; omega) (by omega)
    rw [List.drop_zero] at this
    rw [if_neg (show ¬ (false = true) by decide)] at this
    cases low with
    | true => rw [if_pos rfl]; exact this
    | false => rw [if_neg (by decide)]; exact this
theorem pre1 (c : Int) (l : List Int) : [c] <+: l ↔ ∃ r, l = c :: r := by
  constructor
  · rintro ⟨r, rfl⟩; exact ⟨r, rfl⟩
  · rintro ⟨r, rfl⟩; exact ⟨r, rfl⟩
theorem parse_f (s : ByteArray) (hs : s.size ≤ 100000) (K : Nat) (hK : s.size + 3 ≤ K) : escape_ParseInt.f K s = some (pI (bl s)) := by
  unfold escape_ParseInt.f
  rw [cut_f, Option.bind_some, show bl (⟨#[45]⟩ : ByteArray) = [45] from rfl]
  by_cases h : [45] <+: bl s
  · rw [if_pos h]
    obtain ⟨r, hr⟩ := (pre1 45 _).1 h
    have ht : bl (s.extract (⟨#[45]⟩ : ByteArray).size s.size) = r := by rw [bl_from, hr]; rfl
    have hsz : (s.extract (⟨#[45]⟩ : ByteArray).size s.size).size + 1 = s.size := by rw [← bl_len, ht, ← bl_len, hr]; rfl
    generalize s.extract (⟨#[45]⟩ : ByteArray).size s.size = t at *
    simp only
    rw [hr]
    simp only [pI, if_true, pbody]
    by_cases h1 : t.toList = []
    · rw [if_pos h1, pi_j0 t (by omega) _ _ K (by omega)]
      rw [nil_iff, ht] at h1
      rw [h1]; rfl
    · rw [if_neg h1]
      rw [nil_iff, ht] at h1
      have h0 : 0 < t.size := by rw [← bl_len, ht]; exact List.length_pos_iff.2 h1
      have hd := bl_drop t 0 h0
      rw [List.drop_zero, ht] at hd
      rw [if_pos (by omega)]
      by_cases h48 : bt t 0 = 48
      · rw [if_pos h48, pi_j0 t (by omega) _ _ K (by omega), ht]
        have e : (s.toList != [48]) = true := by
          rw [bne_iff_ne, Ne, is_iff, hr]
          intro h'; injection h' with h' _
          exact absurd h' (by decide)
        have e2 : bad true r = true := by rw [hd]; simp [bad]; exact h48
        rw [e, e2]
      · rw [if_neg h48, pi_j0 t (by omega) _ _ K (by omega), ht]
        have e2 : bad true r = false := by rw [hd]; simp [bad]; exact h48
        rw [e2]
  · rw [if_neg h]
    simp only
    by_cases h1 : s.toList = []
    · rw [if_pos h1, pi_j0 s (by omega) _ _ K (by omega)]
      rw [nil_iff] at h1
      rw [h1]; rfl
    · rw [if_neg h1]
      rw [nil_iff] at h1
      have h0 : 0 < s.size := by rw [← bl_len]; exact List.length_pos_iff.2 h1
      have hd := bl_drop s 0 h0
      rw [List.drop_zero] at hd
      have hn : bt s ((0 : Nat) : Int) ≠ 45 := fun e => h ((pre1 45 _).2 ⟨_, by rw [← e]; exact hd⟩)
      have hpi : pI (bl s) = pbody false (bl s) := by rw [hd]; simp only [pI]; rw [if_neg hn]
      rw [if_pos (by omega), hpi]
      unfold pbody
      by_cases h48 : bt s 0 = 48
      · rw [if_pos h48, pi_j0 s (by omega) _ _ K (by omega)]
        have e : (s.toList != [48]) = bad false (bl s) := by
          rw [Bool.eq_iff_iff, bne_iff_ne, Ne, is_iff]
          rw [hd]
          simp only [bad, Bool.or_false, Bool.and_eq_true, beq_iff_eq, Bool.not_eq_true', List.isEmpty_eq_false_iff, List.map_cons, List.map_nil]
          constructor
          · intro h'; exact ⟨h48, fun h2 => h' (by rw [h2]; exact congrArg (fun x => [x]) h48)⟩
          · rintro ⟨_, h2⟩ h'; injection h' with _ h'; exact h2 h'
        rw [e]
      · rw [if_neg h48, pi_j0 s (by omega) _ _ K (by omega)]
        have e2 : bad false (bl s) = false := by rw [hd]; simp [bad]; intro h'; exact absurd h' h48
        rw [e2]

/-! the reference's -/
theorem rpi_l1 (t : ByteArray) (ht : t.size ≤ 100000) (low : Bool) : ∀ (m i : Nat) (u : Int) (K : Nat), i + m = t.size → ((bl t).drop i).all dig = true → 0 ≤ u → u ≤ 9223372036854775808 → m + 1 ≤ K →
    noonmarkref02_ParseInt.l1 K t low (-u) (i : Int) = some (if most low < vl u ((bl t).drop i) then (0, 2) else (sg low (vl u ((bl t).drop i)), 0)) := by
  intro m
  induction m with
  | zero =>
    intro i u K hi ha h0 h1 hK
    obtain ⟨K, rfl⟩ : ∃ q, K = q + 1 := ⟨K - 1, by omega⟩
    simp only [noonmarkref02_ParseInt.l1]
    rw [if_neg (by omega), bl_end t i (by omega)]
    rw [vl_nil]
    cases low with
    | true => rw [if_pos rfl, if_neg (by simp only [most, if_true]; omega)]; rfl
    | false =>
      rw [if_neg (by decide)]
      by_cases hc : -u < -9223372036854775807
      · rw [if_pos hc, if_pos (by simp only [most, Bool.false_eq_true, if_false]; omega)]
      · rw [if_neg hc, if_neg (by simp only [most, Bool.false_eq_true, if_false]; omega), w64 (by omega) (by omega), Int.neg_neg]; rfl
  | succ m ih =>
    intro i u K hi ha h0 h1 hK
    obtain ⟨K, rfl⟩ : ∃ q, K = q + 1 := ⟨K - 1, by omega⟩
    rw [bl_drop t i (by omega), List.all_cons, Bool.and_eq_true, dig_iff] at ha
    simp only [noonmarkref02_ParseInt.l1]
    rw [if_pos (by omega), if_pos (by omega), noonmarkref02_ParseInt.low, bl_drop t i (by omega)]
    obtain ⟨hd, ha⟩ := ha
    have hde : (bt t i - 48) % 256 = bt t i - 48 := by omega
    rw [hde, vl_cons]
    have hq : Int.tdiv (-9223372036854775808 + (bt t i - 48)) 10 = - ((9223372036854775808 - (bt t i - 48)) / 10) := by
      rw [show (-9223372036854775808 + (bt t i - 48) : Int) = -(9223372036854775808 - (bt t i - 48)) by omega, Int.neg_tdiv, Int.tdiv_eq_ediv_of_nonneg (by omega)]
    rw [hq]
    have hm := most_le low
    by_cases hc : -u < -((9223372036854775808 - (bt t i - 48)) / 10)
    · rw [if_pos hc]
      have := vl_mono _ ha (u * 10 + (bt t i - 48)) (by omega)
      rw [if_pos (by omega)]
    · rw [if_neg hc, w64 (n := -u * 10) (by omega) (by omega), w64 (n := -u * 10 - (bt t i - 48)) (by omega) (by omega), w64 (n := (i : Int) + 1) (by omega) (by omega),
        show ((i : Int) + 1) = ((i + 1 : Nat) : Int) by omega, show -u * 10 - (bt t i - 48) = -(u * 10 + (bt t i - 48)) by omega]
      exact ih (i + 1) _ K (by omega) ha (by omega) (by omega) (by omega)
theorem rpi_l0 (t : ByteArray) (ht : t.size ≤ 100000) (low : Bool) (hb : bad low (bl t) = false) : ∀ (m i : Nat) (K : Nat), i + m = t.size → (((bl t).take i).all dig = true) → m + t.size + 2 ≤ K →
    noonmarkref02_ParseInt.l0 K t low (i : Int) = some (fine low (bl t)) := by
  intro m
  induction m with
  | zero =>
    intro i K hi ha hK
    obtain ⟨K, rfl⟩ : ∃ q, K = q + 1 := ⟨K - 1, by omega⟩
    simp only [noonmarkref02_ParseInt.l0]
    rw [List.take_of_length_le (by rw [bl_len]; omega)] at ha
    rw [if_neg (by omega)]
    unfold fine
    rw [if_pos ha]
    by_cases h19 : (t.size : Int) > 19
    · rw [if_pos h19]
      have h0 : 0 < t.size := by omega
      have hd := bl_drop t 0 h0
      rw [List.drop_zero] at hd
      rw [hd] at ha hb
      simp only [bad] at hb
      rw [List.all_cons, Bool.and_eq_true, dig_iff] at ha
      have hlen : ((bl t).drop (0 + 1)).length = t.size - 1 := by rw [List.length_drop, bl_len]
      have hne : bt t ((0 : Nat) : Int) ≠ 48 := by
        intro h'
        rw [h'] at hb
        have : ((bl t).drop (0 + 1)).isEmpty = false := by rw [List.isEmpty_eq_false_iff, ← List.length_pos_iff]; omega
        rw [this] at hb
        simp at hb
      have hv := vl_pow _ ha.2 (bt t ((0 : Nat) : Int) - 48) (by omega)
      rw [hlen] at hv
      have hp : (10 : Int) ^ 19 ≤ 10 ^ (t.size - 1) := by
        have : (10 : Nat) ^ 19 ≤ 10 ^ (t.size - 1) := Nat.pow_le_pow_right (by decide) (by omega)
        exact_mod_cast this
      have hp2 : (10 : Int) ^ (t.size - 1) ≤ (bt t ((0 : Nat) : Int) - 48) * 10 ^ (t.size - 1) := by
        have : (1 : Int) * 10 ^ (t.size - 1) ≤ (bt t ((0 : Nat) : Int) - 48) * 10 ^ (t.size - 1) := Int.mul_le_mul_of_nonneg_right (by omega) (Int.pow_nonneg (by decide))
        rwa [Int.one_mul] at this
      have h10 : (10 : Int) ^ 19 = 10000000000000000000 := by decide
      have hm := most_le low
      rw [hd, vl_cons]
      rw [if_pos (by rw [show (0 : Int) * 10 + (bt t ((0 : Nat) : Int) - 48) = bt t ((0 : Nat) : Int) - 48 by omega]; omega)]
    · rw [if_neg h19]
      have := rpi_l1 t ht low t.size 0 0 K (by omega) (by rw [List.drop_zero]; exact ha) (by omega) (by omega) (by omega)
      rw [List.drop_zero] at this
      exact this
  | succ m ih =>
    intro i K hi ha hK
    obtain ⟨K, rfl⟩ : ∃ q, K = q + 1 := ⟨K - 1, by omega⟩
    have hsplit : (bl t).all dig = (dig (bt t i) && ((bl t).drop (i + 1)).all dig) := by
      conv => lhs; rw [← List.take_append_drop i (bl t), List.all_append, ha, bl_drop t i (by omega), List.all_cons, Bool.true_and]
    simp only [noonmarkref02_ParseInt.l0]
    rw [if_pos (by omega), if_pos (by omega)]
    by_cases h1 : bt t i < 48
    · rw [if_pos h1]
      have : dig (bt t i) = false := by rw [← Bool.not_eq_true, dig_iff]; omega
      unfold fine
      rw [hsplit, this, Bool.false_and, if_neg (by decide)]
    rw [if_neg h1]
    by_cases h2 : bt t i > 57
    · rw [if_pos h2]
      have : dig (bt t i) = false := by rw [← Bool.not_eq_true, dig_iff]; omega
      unfold fine
      rw [hsplit, this, Bool.false_and, if_neg (by decide)]
    rw [if_neg h2, w64 (by omega) (by omega), show ((i : Int) + 1) = ((i + 1 : Nat) : Int) by omega]
    refine ih (i + 1) K (by omega) ?_ (by omega)
    have hlt : i < (bl t).length := by rw [bl_len]; omega
    rw [List.take_succ_eq_append_getElem hlt, List.all_append, ha, bl_get t i (by omega)]
    simp only [List.all_cons, List.all_nil, Bool.and_true, Bool.true_and, dig_iff]
    omega
theorem rpi_j1 (t : ByteArray) (ht : t.size ≤ 100000) (low : Bool) (K : Nat) (hK : 2 * t.size + 4 ≤ K) : noonmarkref02_ParseInt.j1 K t low = some (pbody low (bl t)) := by
  obtain ⟨K, rfl⟩ : ∃ q, K = q + 1 + 1 := ⟨K - 2, by omega⟩
  simp only [noonmarkref02_ParseInt.j1, noonmarkref02_ParseInt.j2]
  unfold pbody
  by_cases h : t.size = 0
  · rw [if_pos (by omega)]
    have : bl t = [] := List.eq_nil_of_length_eq_zero (by rw [bl_len]; exact h)
    rw [this]; rfl
  · rw [if_neg (by omega), if_pos (by omega)]
    have h0 : 0 < t.size := by omega
    have hd := bl_drop t 0 h0
    rw [List.drop_zero] at hd
    have hlen : ((bl t).drop (0 + 1)).length = t.size - 1 := by rw [List.length_drop, bl_len]
    have key : ∀ b : Bool, bad low (bl t) = b → (if b = true then some (0, 3) else noonmarkref02_ParseInt.l0 K t low 0) = some (if bad low (bl t) = true then (0, 3) else fine low (bl t)) := by
      intro b hb
      rw [hb]
      cases b with
      | true => rfl
      | false =>
        rw [if_neg (by decide), if_neg (by decide)]
        exact rpi_l0 t ht low hb t.size 0 K (by omega) (by simp) (by omega)
    by_cases h48 : bt t 0 = 48
    · rw [if_pos h48]
      by_cases h1 : (t.size : Int) > 1
      · rw [if_pos h1]
        refine key true ?_
        have : ((bl t).drop (0 + 1)).isEmpty = false := by rw [List.isEmpty_eq_false_iff, ← List.length_pos_iff]; omega
        rw [hd]; simp only [bad]; rw [this]
        simp only [Bool.not_false, Bool.true_or, Bool.and_true, beq_iff_eq]; exact h48
      · rw [if_neg h1]
        refine key low ?_
        have : ((bl t).drop (0 + 1)).isEmpty = true := by rw [List.isEmpty_iff, ← List.length_eq_zero_iff]; omega
        rw [hd]; simp only [bad]; rw [this, show (bt t ((0 : Nat) : Int) == 48) = true from beq_iff_eq.2 h48]
        simp
    · rw [if_neg h48]
      refine key false ?_
      rw [hd]; simp only [bad]; rw [show (bt t ((0 : Nat) : Int) == 48) = false from beq_eq_false_iff_ne.2 h48]
      rfl
theorem rparse_f (s : ByteArray) (hs : s.size ≤ 100000) (K : Nat) (hK : 2 * s.size + 5 ≤ K) : noonmarkref02_ParseInt.f K s = some (pI (bl s)) := by
  unfold noonmarkref02_ParseInt.f
  obtain ⟨K, rfl⟩ : ∃ q, K = q + 1 := ⟨K - 1, by omega⟩
  simp only [noonmarkref02_ParseInt.j0]
  by_cases h : s.size = 0
  · rw [if_neg (by omega), if_neg (by decide), rpi_j1 s hs _ K (by omega)]
    have : bl s = [] := List.eq_nil_of_length_eq_zero (by rw [bl_len]; exact h)
    rw [this]; rfl
  · rw [if_pos (by omega), if_pos (by omega)]
    have hd := bl_drop s 0 (by omega)
    rw [List.drop_zero] at hd
    by_cases h45 : bt s 0 = 45
    · rw [if_pos (by rw [beq_iff_eq]; exact h45), if_pos (by omega), show (bt s 0 == 45) = true from beq_iff_eq.2 h45, rpi_j1 _ (by rw [← bl_len, bl_from, List.length_drop, bl_len]; omega) _ K (by rw [← bl_len, bl_from, List.length_drop, bl_len]; omega), bl_from]
      conv => rhs; rw [hd]
      simp only [pI]
      rw [if_pos (show bt s ((0 : Nat) : Int) = 45 from h45)]
    · rw [if_neg (by rw [beq_iff_eq]; exact h45), show (bt s 0 == 45) = false from beq_eq_false_iff_ne.2 h45, rpi_j1 s hs _ K (by omega)]
      conv => rhs; rw [hd]
      simp only [pI]
      rw [if_neg (show ¬ bt s ((0 : Nat) : Int) = 45 from h45), ← hd]

end Go.Proofs.Ytmohadimhapacaa.Plain
