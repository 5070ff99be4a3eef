/- A number's digits: what Int writes, and that ParseInt and Int undo each other. -/
import Derived.Test.YtmohadimhapacaaPlainD
namespace Go.Proofs.Ytmohadimhapacaa.Plain
open Go.RowKit Go.Proofs.Ytmohadimhapacaa.S Go.Proofs.YtmohadimhapacaaW.PrintWords Go.Proofs.YtmohadimhapacaaW.PrintLast
set_option linter.unusedVariables false
set_option linter.unusedSimpArgs false

def dg : Nat → Int → List Int
  | 0, _ => []
  | k + 1, u => if u / 10 = 0 then [48 + u % 10] else dg k (u / 10) ++ [48 + u % 10]
theorem decL_dg : ∀ (k : Nat) (u : Int) (acc : List Int), decL k u acc = dg k u ++ acc := by
  intro k
  induction k with
  | zero => intro u acc; rfl
  | succ k ih =>
    intro u acc
    simp only [decL, dg]
    by_cases h : u / 10 = 0
    · rw [if_pos h, if_pos h]; rfl
    · rw [if_neg h, if_neg h, ih, List.append_assoc]; rfl
theorem dg_len : ∀ (k : Nat) (u : Int), (dg k u).length ≤ k := by
  intro k
  induction k with
  | zero => intro u; simp [dg]
  | succ k ih =>
    intro u
    simp only [dg]
    by_cases h : u / 10 = 0
    · rw [if_pos h]; simp
    · rw [if_neg h, List.length_append, List.length_singleton]; have := ih (u / 10); omega
theorem dg_dig : ∀ (k : Nat) (u : Int), (dg k u).all dig = true := by
  intro k
  induction k with
  | zero => intro u; rfl
  | succ k ih =>
    intro u
    have hd : dig (48 + u % 10) = true := by rw [dig_iff]; omega
    simp only [dg]
    by_cases h : u / 10 = 0
    · rw [if_pos h, List.all_cons, hd]; rfl
    · rw [if_neg h, List.all_append, ih, List.all_cons, hd]; rfl
theorem p10 (k : Nat) : (10 : Int) ^ (k + 1) = 10 ^ k * 10 := Int.pow_succ 10 k
theorem dg_vl : ∀ (k : Nat) (u : Int), 0 ≤ u → u < 10 ^ k → vl 0 (dg k u) = u := by
  intro k
  induction k with
  | zero => intro u h0 h1; simp only [Int.pow_zero] at h1; simp only [dg, vl]; omega
  | succ k ih =>
    intro u h0 h1
    rw [p10] at h1
    simp only [dg]
    by_cases h : u / 10 = 0
    · rw [if_pos h]; simp only [vl]; omega
    · rw [if_neg h, vl_snoc, ih (u / 10) (by omega) (by omega)]; omega
theorem dg_head : ∀ (k : Nat) (u : Int), 1 ≤ u → u < 10 ^ k → ∃ c r, dg k u = c :: r ∧ c ≠ 48 := by
  intro k
  induction k with
  | zero => intro u h0 h1; simp only [Int.pow_zero] at h1; omega
  | succ k ih =>
    intro u h0 h1
    rw [p10] at h1
    simp only [dg]
    by_cases h : u / 10 = 0
    · rw [if_pos h]; exact ⟨_, _, rfl, by omega⟩
    · rw [if_neg h]
      obtain ⟨c, r, e, hc⟩ := ih (u / 10) (by omega) (by omega)
      rw [e]; exact ⟨c, _, rfl, hc⟩
theorem dg_zero (k : Nat) : dg (k + 1) 0 = [48] := by simp [dg]
/-- what a text of digits says is written as that text -/
theorem vl_dg : ∀ (k : Nat) (c : Int) (r : List Int), (c :: r).all dig = true → (c ≠ 48 ∨ r = []) → (c :: r).length ≤ k → dg k (vl 0 (c :: r)) = c :: r := by
  intro k
  induction k with
  | zero => intro c r h1 h2 h3; simp at h3
  | succ k ih =>
    intro c r h1 h2 h3
    rcases List.eq_nil_or_concat r with hr | ⟨q, x, hr⟩
    · subst hr
      rw [List.all_cons, Bool.and_eq_true, dig_iff] at h1
      rw [vl_cons, vl_nil]
      simp only [dg]
      rw [if_pos (by omega)]
      congr 1; omega
    · rw [List.concat_eq_append] at hr
      subst hr
      have hc : c ≠ 48 := by
        rcases h2 with h2 | h2
        · exact h2
        · simp at h2
      rw [← List.cons_append, List.all_append, Bool.and_eq_true] at h1
      have hx : dig x = true := by simpa using h1.2
      rw [dig_iff] at hx
      have hv : 1 ≤ vl 0 (c :: q) := by
        have h4 := h1.1
        rw [List.all_cons, Bool.and_eq_true, dig_iff] at h4
        have := vl_mono q h4.2 (0 * 10 + (c - 48)) (by omega)
        rw [vl_cons]; omega
      rw [← List.cons_append, vl_snoc]
      simp only [dg]
      rw [if_neg (by omega), show (vl 0 (c :: q) * 10 + (x - 48)) / 10 = vl 0 (c :: q) by omega, ih c q h1.1 (Or.inl hc) (by simp only [List.length_cons, List.length_append] at h3 ⊢; omega)]
      congr 2; omega
theorem dg_byte (k : Nat) (u : Int) : ∀ c ∈ dg k u, 0 ≤ c ∧ c < 256 := by
  intro c hc
  have := List.all_eq_true.1 (dg_dig k u) c hc
  rw [dig_iff] at this
  omega

/-- a number's text -/
def decS (n : Int) : List Int := if n < 0 then 45 :: dg 20 (-n) else dg 20 n
theorem decS_byte (n : Int) : ∀ c ∈ decS n, 0 ≤ c ∧ c < 256 := by
  intro c hc
  unfold decS at hc
  split at hc
  · rcases List.mem_cons.1 hc with rfl | h
    · omega
    · exact dg_byte _ _ c h
  · exact dg_byte _ _ c hc
theorem decS_len (n : Int) : (decS n).length ≤ 21 := by
  unfold decS
  split
  · have := dg_len 20 (-n); rw [List.length_cons]; omega
  · have := dg_len 20 n; omega
theorem int_f (n : Int) (h0 : -9223372036854775808 ≤ n) (h1 : n ≤ 9223372036854775807) : escape_Int.f n = some (strOfNums (decS n)) := by
  unfold escape_Int.f decS
  rw [if_pos ⟨h0, h1⟩, decL_dg, decL_dg, List.append_nil, List.append_nil]
theorem digits_f : ∀ (k : Nat) (u : Int) (K : Nat), 0 ≤ u → u < 10 ^ (k + 1) → u ≤ 9223372036854775808 → k ≤ 20 → k + 1 ≤ K → noonmarkref02_digits.f K (-u) = some (strOfNums (dg (k + 1) u)) := by
  intro k
  induction k with
  | zero =>
    intro u K h0 h1 h2 hk hK
    obtain ⟨K, rfl⟩ : ∃ q, K = q + 1 := ⟨K - 1, by omega⟩
    have h9 : u < 10 := by simpa using h1
    simp only [noonmarkref02_digits.f, dg, Option.bind_some]
    rw [if_pos (by omega), if_pos (by omega)]
    have e : Int.tmod (-u) 10 = -(u % 10) := by rw [Int.neg_tmod, Int.tmod_eq_emod_of_nonneg h0]
    rw [e, w64 (by omega) (by omega)]
    congr 3; omega
  | succ k ih =>
    intro u K h0 h1 h2 hk hK
    obtain ⟨K, rfl⟩ : ∃ q, K = q + 1 := ⟨K - 1, by omega⟩
    rw [p10] at h1
    have e : Int.tmod (-u) 10 = -(u % 10) := by rw [Int.neg_tmod, Int.tmod_eq_emod_of_nonneg h0]
    have e3 : Int.tdiv (-u) 10 = -(u / 10) := by rw [Int.neg_tdiv, Int.tdiv_eq_ediv_of_nonneg h0]
    have e2 : wrap64 (48 - Int.tmod (-u) 10) % 256 = 48 + u % 10 := by rw [e, w64 (by omega) (by omega)]; omega
    simp only [noonmarkref02_digits.f, Option.bind_some]
    rw [e2]
    rw [show dg (k + 1 + 1) u = if u / 10 = 0 then [48 + u % 10] else dg (k + 1) (u / 10) ++ [48 + u % 10] from rfl]
    by_cases h : u / 10 = 0
    · rw [if_pos (by omega), if_pos h]
    · rw [if_neg (by omega), if_neg h, e3, w64 (by omega) (by omega), ih (u / 10) K (by omega) (by omega) (by omega) (by omega) (by omega), Option.bind_some]
      have hl := dg_len (k + 1) (u / 10)
      rw [if_pos (by rw [strOfNums_size, strOfNums_size, List.length_singleton]; omega), str_append]
theorem rint_f (n : Int) (h0 : -9223372036854775808 ≤ n) (h1 : n ≤ 9223372036854775807) (K : Nat) (hK : 20 ≤ K) : noonmarkref02_Int.f K n = some (strOfNums (decS n)) := by
  unfold noonmarkref02_Int.f decS
  by_cases h : n < 0
  · have := digits_f 19 (-n) K (by omega) (by omega) (by omega) (by omega) (by omega)
    rw [Int.neg_neg] at this
    have hl : (dg (19 + 1) (-n)).length ≤ 20 := dg_len 20 (-n)
    rw [if_pos h, this, Option.bind_some, if_pos (by rw [strOfNums_size]; omega), if_pos h, show (⟨#[45]⟩ : ByteArray) = strOfNums [45] from rfl, str_append]
    rfl
  · rw [if_neg h, w64 (by omega) (by omega), digits_f 19 n K (by omega) (by omega) (by omega) (by omega) (by omega), if_neg h]
    rfl

/-! back and forth -/
theorem pbody_dg (low : Bool) (k : Nat) (v : Int) (h0 : 0 ≤ v) (h1 : v < 10 ^ (k + 1)) (h2 : v ≤ most low) (h3 : low = true → 1 ≤ v) : pbody low (dg (k + 1) v) = (sg low v, 0) := by
  have hb : bad low (dg (k + 1) v) = false := by
    by_cases hv : 1 ≤ v
    · obtain ⟨c, r, e, hc⟩ := dg_head (k + 1) v hv h1
      rw [e]
      simp only [bad]
      rw [show (c == 48) = false from beq_eq_false_iff_ne.2 hc]
      rfl
    · obtain rfl : v = 0 := by omega
      rw [dg_zero]
      cases low with
      | true => exact absurd (h3 rfl) hv
      | false => rfl
  unfold pbody fine
  rw [hb, if_neg (by decide), if_pos (dg_dig _ _), dg_vl _ v h0 h1, if_neg (by omega)]
theorem pI_low (k : Nat) (v : Int) (h0 : 1 ≤ v) (h1 : v < 10 ^ (k + 1)) (h2 : v ≤ 9223372036854775808) : pI (45 :: dg (k + 1) v) = (-v, 0) := by
  show pbody true (dg (k + 1) v) = _
  rw [pbody_dg true k v (by omega) h1 h2 (fun _ => h0)]; rfl
theorem pI_high (k : Nat) (v : Int) (h0 : 0 ≤ v) (h1 : v < 10 ^ (k + 1)) (h2 : v ≤ 9223372036854775807) : pI (dg (k + 1) v) = (v, 0) := by
  have e : pI (dg (k + 1) v) = pbody false (dg (k + 1) v) := by
    have hd := dg_dig (k + 1) v
    cases h : dg (k + 1) v with
    | nil => rfl
    | cons c r =>
      rw [h, List.all_cons, Bool.and_eq_true, dig_iff] at hd
      simp only [pI]
      rw [if_neg (by omega)]
  rw [e, pbody_dg false k v h0 h1 h2 (fun h => by cases h)]; rfl
theorem pI_decS (n : Int) (h0 : -9223372036854775808 ≤ n) (h1 : n ≤ 9223372036854775807) : pI (decS n) = (n, 0) := by
  unfold decS
  by_cases h : n < 0
  · rw [if_pos h, pI_low 19 (-n) (by omega) (by omega) (by omega), Int.neg_neg]
  · rw [if_neg h, pI_high 19 n (by omega) (by omega) (by omega)]
theorem fine_len (low : Bool) (c : Int) (r : List Int) (ha : (c :: r).all dig = true) (hc : c ≠ 48 ∨ r = []) (h : vl 0 (c :: r) ≤ 9223372036854775808) : (c :: r).length ≤ 20 := by
  rcases hc with hc | hc
  · rw [List.all_cons, Bool.and_eq_true, dig_iff] at ha
    have hv := vl_pow r ha.2 (0 * 10 + (c - 48)) (by omega)
    rw [vl_cons] at h
    rw [List.length_cons]
    refine Nat.le_of_not_lt fun hl => ?_
    have hp : (10 : Int) ^ 20 ≤ 10 ^ r.length := by
      have : (10 : Nat) ^ 20 ≤ 10 ^ r.length := Nat.pow_le_pow_right (by decide) (by omega)
      exact_mod_cast this
    have hp2 : (1 : Int) * 10 ^ r.length ≤ (0 * 10 + (c - 48)) * 10 ^ r.length := Int.mul_le_mul_of_nonneg_right (by omega) (Int.pow_nonneg (by decide))
    have h10 : (10 : Int) ^ 20 = 100000000000000000000 := by decide
    omega
  · subst hc; simp
/-- what is read is written so again -/
theorem decS_pI (l : List Int) (n : Int) (h : pI l = (n, 0)) : -9223372036854775808 ≤ n ∧ n ≤ 9223372036854775807 ∧ decS n = l := by
  cases l with
  | nil => simp [pI, pbody, bad] at h
  | cons c r =>
    have body : ∀ (low : Bool) (t : List Int), pbody low t = (n, 0) → ∃ x q, t = x :: q ∧ t.all dig = true ∧ (x ≠ 48 ∨ (q = [] ∧ low = false)) ∧ 0 ≤ vl 0 t ∧ vl 0 t ≤ most low ∧ n = sg low (vl 0 t) := by
      intro low t hp
      unfold pbody at hp
      by_cases hb : bad low t = true
      · rw [if_pos hb] at hp; simp at hp
      rw [if_neg hb] at hp
      unfold fine at hp
      by_cases ha : t.all dig = true
      · rw [if_pos ha] at hp
        by_cases hm : most low < vl 0 t
        · rw [if_pos hm] at hp; simp at hp
        · rw [if_neg hm] at hp
          cases t with
          | nil => simp [bad] at hb
          | cons x q =>
            refine ⟨x, q, rfl, ha, ?_, vl_mono _ ha 0 (by omega), by omega, by simpa using hp.symm⟩
            by_cases hx : x = 48
            · right
              simp only [bad, hx] at hb
              constructor
              · cases q with
                | nil => rfl
                | cons y q => simp at hb
              · cases low with
                | false => rfl
                | true => simp at hb
            · left; exact hx
      · rw [if_neg ha] at hp; simp at hp
    simp only [pI] at h
    by_cases hc : c = 45
    · rw [if_pos hc] at h
      obtain ⟨x, q, ht, ha, hx, h0, h1, hn⟩ := body true r h
      have hx48 : x ≠ 48 := by
        rcases hx with hx | ⟨_, hx⟩
        · exact hx
        · cases hx
      have hv : 1 ≤ vl 0 r := by
        rw [ht] at ha ⊢
        rw [List.all_cons, Bool.and_eq_true, dig_iff] at ha
        have := vl_mono q ha.2 (0 * 10 + (x - 48)) (by omega)
        rw [vl_cons]; omega
      simp only [most, if_true] at h1
      simp only [sg, if_true] at hn
      refine ⟨by omega, by omega, ?_⟩
      unfold decS
      rw [if_pos (by omega), hn, Int.neg_neg, hc, ht]
      rw [ht] at ha h1
      rw [vl_dg 20 x q ha (Or.inl hx48) (fine_len true x q ha (Or.inl hx48) h1)]
    · rw [if_neg hc] at h
      obtain ⟨x, q, ht, ha, hx, h0, h1, hn⟩ := body false (c :: r) h
      simp only [most, Bool.false_eq_true, if_false] at h1
      simp only [sg, Bool.false_eq_true, if_false] at hn
      refine ⟨by omega, by omega, ?_⟩
      unfold decS
      rw [if_neg (by omega), hn]
      injection ht with e1 e2
      subst e1; subst e2
      have hx' : c ≠ 48 ∨ r = [] := by
        rcases hx with hx | ⟨hx, _⟩
        · exact Or.inl hx
        · exact Or.inr hx
      exact vl_dg 20 c r ha hx' (fine_len false c r ha hx' (by omega))

end Go.Proofs.Ytmohadimhapacaa.Plain
