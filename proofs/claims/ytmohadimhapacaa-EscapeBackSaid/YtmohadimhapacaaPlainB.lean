/- Quote and Unquote, the program's and the reference's: both are what the lists say. -/
import Derived.Test.YtmohadimhapacaaPlain
namespace Go.Proofs.Ytmohadimhapacaa.Plain
open Go.RowKit Go.Proofs.Ytmohadimhapacaa.S Go.Proofs.YtmohadimhapacaaW.PrintWords Go.Proofs.YtmohadimhapacaaW.PrintLast
set_option linter.unusedVariables false
set_option linter.unusedSimpArgs false

/-! Quote -/
theorem hexd_hi : ∀ c : Int, 0 ≤ c → c < 256 → bt (⟨#[48, 49, 50, 51, 52, 53, 54, 55, 56, 57, 97, 98, 99, 100, 101, 102]⟩ : ByteArray) (c / 16) = hx (c / 16) := upTo _ (by decide +kernel)
theorem hexd_lo : ∀ c : Int, 0 ≤ c → c < 256 → bt (⟨#[48, 49, 50, 51, 52, 53, 54, 55, 56, 57, 97, 98, 99, 100, 101, 102]⟩ : ByteArray) (Go.bits .and .u8 c 15) = hx (c % 16) := upTo _ (by decide +kernel)
theorem and_bd : ∀ c : Int, 0 ≤ c → c < 256 → 0 ≤ Go.bits .and .u8 c 15 ∧ Go.bits .and .u8 c 15 < 16 := upTo _ (by decide +kernel)
theorem quote_j1 (K : Nat) (s : ByteArray) (acc : List Int) (n i c : Int) (b : Bool) (h0 : 0 ≤ c) (h1 : c < 256) (hb : b = (c == 34 || c == 92)) (hl : acc.length + 4 < 140737488355328) :
    escape_Quote.j1 (K + 1) s acc c n i c b = escape_Quote.l0 K s (acc ++ esc c) n (wrap64 (i + 1)) := by
  have hal := and_bd c h0 h1
  have d1 := hexd_hi c h0 h1
  have d2 := hexd_lo c h0 h1
  unfold escape_Quote.j1 esc
  by_cases a1 : c = 34
  · subst a1; subst hb
    rw [if_pos (by decide), if_pos rfl, Option.bind_some]
    exact if_pos (by simp only [List.length_cons, List.length_nil]; omega)
  rw [if_neg a1]
  by_cases a2 : c = 92
  · subst a2; subst hb
    rw [if_pos (by decide), if_pos rfl, Option.bind_some]
    exact if_pos (by simp only [List.length_cons, List.length_nil]; omega)
  rw [if_neg a2, if_neg (show ¬ b = true by subst hb; simp [a1, a2])]
  by_cases a3 : c = 10
  · rw [if_pos a3, if_pos a3, Option.bind_some]
    exact if_pos (by simp only [List.length_cons, List.length_nil]; omega)
  rw [if_neg a3, if_neg a3]
  by_cases a4 : c = 9
  · rw [if_pos a4, if_pos a4, Option.bind_some]
    exact if_pos (by simp only [List.length_cons, List.length_nil]; omega)
  rw [if_neg a4, if_neg a4]
  by_cases a5 : c < 32
  · rw [if_pos a5, if_pos (show 0 ≤ c / 16 by omega), if_pos (show c / 16 < 16 by omega), if_pos hal.1, if_pos hal.2, Option.bind_some, d1, d2, if_neg (show ¬ (32 ≤ c ∧ c ≤ 126) by omega)]
    exact if_pos (by simp only [List.length_cons, List.length_nil]; omega)
  rw [if_neg a5]
  by_cases a6 : c > 126
  · rw [if_pos a6, if_pos (show 0 ≤ c / 16 by omega), if_pos (show c / 16 < 16 by omega), if_pos hal.1, if_pos hal.2, Option.bind_some, d1, d2, if_neg (show ¬ (32 ≤ c ∧ c ≤ 126) by omega)]
    exact if_pos (by simp only [List.length_cons, List.length_nil]; omega)
  rw [if_neg a6, if_pos (show 32 ≤ c ∧ c ≤ 126 by omega)]
  exact if_pos (by omega)
theorem quote_l0 (s : ByteArray) (hs : s.size ≤ 100000) : ∀ (m i : Nat) (acc : List Int) (K : Nat), i + m = s.size → acc.length ≤ 1 + 4 * i → 2 * m + 1 ≤ K →
    escape_Quote.l0 K s acc (s.size : Int) (i : Int) = some (strOfNums (acc ++ flat ((bl s).drop i) ++ [34])) := by
  intro m
  induction m with
  | zero =>
    intro i acc K hi ha hK
    obtain ⟨K, rfl⟩ : ∃ q, K = q + 1 := ⟨K - 1, by omega⟩
    unfold escape_Quote.l0
    rw [if_neg (by omega), if_pos (by omega), bl_end s i (by omega)]
    simp [flat]
  | succ m ih =>
    intro i acc K hi ha hK
    obtain ⟨K, rfl⟩ : ∃ q, K = q + 1 + 1 := ⟨K - 2, by omega⟩
    have hb := bt_byte s i
    have key : escape_Quote.j1 (K + 1) s acc (bt s i) (s.size : Int) i (bt s i) (bt s i == 34 || bt s i == 92) = some (strOfNums (acc ++ flat ((bl s).drop i) ++ [34])) := by
      have hel := esc_len (bt s i) hb.1 hb.2
      rw [quote_j1 K s acc _ _ _ _ hb.1 hb.2 rfl (by omega), w64 (by omega) (by omega), show ((i : Int) + 1) = ((i + 1 : Nat) : Int) by omega,
        ih (i + 1) (acc ++ esc (bt s i)) K (by omega) (by rw [List.length_append]; omega) (by omega), bl_drop s i (by omega), flat_cons]
      simp only [List.append_assoc]
    unfold escape_Quote.l0
    rw [if_pos (by omega), if_pos (by omega), if_pos (by omega)]
    by_cases h34 : bt s i = 34
    · rw [if_pos h34]
      rw [show ((bt s i == 34) || (bt s i == 92)) = (bt s i == 34) by simp [h34]] at key
      exact key
    · rw [if_neg h34]
      rw [show ((bt s i == 34) || (bt s i == 92)) = (bt s i == 92) by simp [h34]] at key
      exact key
theorem quote_f (s : ByteArray) (hs : s.size ≤ 100000) (K : Nat) (hK : 2 * s.size + 1 ≤ K) : escape_Quote.f K s = some (strOfNums (quo (bl s))) := by
  unfold escape_Quote.f
  have := quote_l0 s hs s.size 0 [34] K (by omega) (by simp) hK
  rw [List.drop_zero] at this
  exact this
theorem escaped_1 : ∀ c : Int, 0 ≤ c → c < 256 → noonmarkref02_escaped.f 1 c = some (strOfNums (esc c)) := upTo _ (by decide +kernel)
theorem escaped_f (c : Int) (h0 : 0 ≤ c) (h1 : c < 256) (K : Nat) (hK : 1 ≤ K) : noonmarkref02_escaped.f K c = some (strOfNums (esc c)) :=
  at_rounds (noonmarkref02_escaped.mono c) hK (escaped_1 c h0 h1)
theorem rquote_l0 (s : ByteArray) (hs : s.size ≤ 100000) : ∀ (m i : Nat) (acc : List Int) (K : Nat), i + m = s.size → acc.length ≤ 4 * i → m + 2 ≤ K →
    noonmarkref02_Quote.l0 K s (strOfNums acc) (i : Int) = some (strOfNums (34 :: (acc ++ flat ((bl s).drop i) ++ [34]))) := by
  intro m
  induction m with
  | zero =>
    intro i acc K hi ha hK
    obtain ⟨K, rfl⟩ : ∃ q, K = q + 1 := ⟨K - 1, by omega⟩
    unfold noonmarkref02_Quote.l0
    rw [if_neg (by omega), if_pos (by rw [strOfNums_size]; omega), if_pos (by rw [ByteArray.size_append, strOfNums_size, show (⟨#[34]⟩ : ByteArray).size = 1 from rfl]; omega), bl_end s i (by omega)]
    rw [show (⟨#[34]⟩ : ByteArray) = strOfNums [34] from rfl, str_append, str_append]
    simp [flat]
  | succ m ih =>
    intro i acc K hi ha hK
    obtain ⟨K, rfl⟩ : ∃ q, K = q + 1 := ⟨K - 1, by omega⟩
    have hb := bt_byte s i
    have hel := esc_len (bt s i) hb.1 hb.2
    unfold noonmarkref02_Quote.l0
    rw [if_pos (by omega), if_pos (by omega), escaped_f _ hb.1 hb.2 K (by omega), Option.bind_some, if_pos (by rw [strOfNums_size, strOfNums_size]; omega), str_append,
      w64 (by omega) (by omega), show ((i : Int) + 1) = ((i + 1 : Nat) : Int) by omega, ih (i + 1) _ K (by omega) (by rw [List.length_append]; omega) (by omega), bl_drop s i (by omega), flat_cons]
    simp only [List.append_assoc]
theorem rquote_f (s : ByteArray) (hs : s.size ≤ 100000) (K : Nat) (hK : s.size + 2 ≤ K) : noonmarkref02_Quote.f K s = some (strOfNums (quo (bl s))) := by
  unfold noonmarkref02_Quote.f
  have := rquote_l0 s hs s.size 0 [] K (by omega) (by simp) hK
  rw [List.drop_zero] at this
  exact this

/-! the reference's one -/
theorem begins_f (a b : ByteArray) : noonmarkref02_begins.f a b = some (decide (bl a <+: bl b)) := by
  unfold noonmarkref02_begins.f
  by_cases h : a.size ≤ b.size
  · rw [if_pos (by omega), if_pos (by omega)]
    congr 1
    rw [Bool.eq_iff_iff, beq_iff_eq, toList_iff, decide_eq_true_iff, Int.toNat_natCast]
    rw [List.prefix_iff_eq_take, bl_len, ← bl_upto]
    exact ⟨fun h => by rw [h], fun h => (bl_inj h).symm⟩
  · rw [if_neg (by omega)]
    congr 1
    rw [eq_comm, decide_eq_false_iff_not]
    intro hp
    have := hp.length_le
    rw [bl_len, bl_len] at this
    exact h this
theorem esc_is_byte (c : Int) (h0 : 0 ≤ c) (h1 : c < 256) : ∀ x ∈ esc c, 0 ≤ x ∧ x < 256 := fun x hx => by have := esc_byte c h0 h1 x hx; omega
theorem bl_esc (c : Int) (h0 : 0 ≤ c) (h1 : c < 256) : bl (strOfNums (esc c)) = esc c := bl_str _ (esc_is_byte c h0 h1)
theorem esc_pre (c : Int) (h0 : 0 ≤ c) (h1 : c < 256) (l : List Int) (h : esc c <+: l) : ∃ r, pOne l = .ok (c, false, r) := by
  obtain ⟨r, rfl⟩ := h
  exact ⟨r, one_esc c h0 h1 r⟩
theorem rone_ok (s : ByteArray) (c0 : Int) (r : List Int) (hp : pOne (bl s) = .ok (c0, false, r)) : ∀ (m : Nat) (c : Int) (p : Bool) (K : Nat), 0 ≤ c → c + m = c0 → m + 2 ≤ K →
    noonmarkref02_one.l0 K s p c = some (c0, ((esc c0).length : Int)) := by
  obtain ⟨h0, h1, he⟩ := (one_ok (bl s) (bl_byte s) c0 false r hp).2 rfl
  intro m
  induction m with
  | zero =>
    intro c p K hc hm hK
    obtain rfl : c = c0 := by omega
    obtain ⟨K, rfl⟩ : ∃ q, K = q + 1 := ⟨K - 1, by omega⟩
    unfold noonmarkref02_one.l0
    rw [if_pos h1, show c % 256 = c by omega, escaped_f c h0 h1 K (by omega), Option.bind_some, begins_f, Option.bind_some, bl_esc c h0 h1, if_pos (by rw [he]; simp), strOfNums_size]
  | succ m ih =>
    intro c p K hc hm hK
    obtain ⟨K, rfl⟩ : ∃ q, K = q + 1 := ⟨K - 1, by omega⟩
    have hc1 : c < 256 := by omega
    have hno : ¬ (esc c <+: bl s) := by
      intro h
      obtain ⟨r', h'⟩ := esc_pre c hc hc1 _ h
      rw [hp] at h'
      injection h' with h'; injection h' with h' _
      omega
    unfold noonmarkref02_one.l0
    rw [if_pos hc1, show c % 256 = c by omega, escaped_f c hc hc1 K (by omega), Option.bind_some, begins_f, Option.bind_some, bl_esc c hc hc1, if_neg (by simpa using hno), w64 (by omega) (by omega)]
    cases p with
    | true => rw [if_pos rfl]; exact ih (c + 1) true K (by omega) (by omega) (by omega)
    | false => rw [if_neg (by decide), begins_f, Option.bind_some]; exact ih (c + 1) _ K (by omega) (by omega) (by omega)
theorem rone_no (s : ByteArray) (k : Int) (hp : pOne (bl s) = .error k) : ∀ (m : Nat) (c : Int) (p : Bool) (K : Nat), 0 ≤ c → c + m = 256 → m + 2 ≤ K →
    ∃ v : Int, noonmarkref02_one.l0 K s p c = some (0, v) ∧ ((p = true ∨ ∃ c', c ≤ c' ∧ c' < 256 ∧ bl s <+: esc c') → v = -1) ∧ (¬ (p = true ∨ ∃ c', c ≤ c' ∧ c' < 256 ∧ bl s <+: esc c') → v = 0) := by
  intro m
  induction m with
  | zero =>
    intro c p K hc hm hK
    obtain ⟨K, rfl⟩ : ∃ q, K = q + 1 := ⟨K - 1, by omega⟩
    unfold noonmarkref02_one.l0
    rw [if_neg (by omega)]
    have hn : ¬ ∃ c', c ≤ c' ∧ c' < 256 ∧ bl s <+: esc c' := by rintro ⟨c', h1, h2, _⟩; omega
    cases p with
    | true => rw [if_pos rfl]; exact ⟨-1, rfl, fun _ => rfl, fun h => absurd (Or.inl rfl) h⟩
    | false => rw [if_neg (by decide)]; exact ⟨0, rfl, fun h => (by rcases h with h | h; (cases h); exact absurd h hn), fun _ => rfl⟩
  | succ m ih =>
    intro c p K hc hm hK
    obtain ⟨K, rfl⟩ : ∃ q, K = q + 1 := ⟨K - 1, by omega⟩
    have hc1 : c < 256 := by omega
    have hno : ¬ (esc c <+: bl s) := by
      intro h
      obtain ⟨r', h'⟩ := esc_pre c hc hc1 _ h
      rw [hp] at h'
      cases h'
    unfold noonmarkref02_one.l0
    rw [if_pos hc1, show c % 256 = c by omega, escaped_f c hc hc1 K (by omega), Option.bind_some, begins_f, Option.bind_some, bl_esc c hc hc1, if_neg (by simpa using hno), w64 (by omega) (by omega)]
    cases p with
    | true =>
      rw [if_pos rfl]
      obtain ⟨v, e, h1, h2⟩ := ih (c + 1) true K (by omega) (by omega) (by omega)
      exact ⟨v, e, fun _ => h1 (Or.inl rfl), fun h => absurd (Or.inl rfl) h⟩
    | false =>
      rw [if_neg (by decide), begins_f, Option.bind_some, bl_esc c hc hc1]
      obtain ⟨v, e, h1, h2⟩ := ih (c + 1) (decide (bl s <+: esc c)) K (by omega) (by omega) (by omega)
      have key : (decide (bl s <+: esc c) = true ∨ ∃ c', c + 1 ≤ c' ∧ c' < 256 ∧ bl s <+: esc c') ↔ (false = true ∨ ∃ c', c ≤ c' ∧ c' < 256 ∧ bl s <+: esc c') := by
        simp only [decide_eq_true_eq, Bool.false_eq_true, false_or]
        constructor
        · rintro (h | ⟨c', h1, h2, h3⟩)
          · exact ⟨c, by omega, hc1, h⟩
          · exact ⟨c', by omega, h2, h3⟩
        · rintro ⟨c', h1, h2, h3⟩
          by_cases he : c' = c
          · left; rw [← he]; exact h3
          · right; exact ⟨c', by omega, h2, h3⟩
      exact ⟨v, e, fun h => h1 (key.2 h), fun h => h2 (fun h' => h (key.1 h'))⟩
def soft (x : Except Int (Int × Bool × List Int)) : Bool := match x with
  | .error k => k == 9
  | .ok _ => true
theorem soft_all : ∀ c : Int, 0 ≤ c → c < 256 → ∀ m : Fin 5, soft (pOne ((esc c).take m.val)) = true := upTo _ (by decide +kernel)
/-- that a text that cannot be read, and is not at its end, ends in a byte's writing -/
theorem part_iff (l : List Int) (hl : ∀ c ∈ l, 0 ≤ c ∧ c < 256) (k : Int) (hp : pOne l = .error k) : (∃ c', 0 ≤ c' ∧ c' < 256 ∧ l <+: esc c') ↔ k = 9 := by
  constructor
  · rintro ⟨c, h0, h1, h2⟩
    have hlen := h2.length_le
    have h4 := (esc_len c h0 h1).2
    have := soft_all c h0 h1 ⟨l.length, by omega⟩
    rw [← List.prefix_iff_eq_take.1 h2, hp] at this
    simpa [soft] using this
  · rintro rfl
    cases l with
    | nil => exact ⟨0, by omega, by omega, List.nil_prefix⟩
    | cons x l =>
      have hx0 := hl x (by simp)
      simp only [pOne] at hp
      by_cases a1 : x = 34
      · rw [if_pos a1] at hp; cases hp
      rw [if_neg a1] at hp
      by_cases a2 : x < 32
      · rw [if_pos a2] at hp; cases hp
      rw [if_neg a2] at hp
      by_cases a3 : x > 126
      · rw [if_pos a3] at hp; cases hp
      rw [if_neg a3] at hp
      by_cases a4 : x ≠ 92
      · rw [if_pos a4] at hp; cases hp
      rw [if_neg a4] at hp
      obtain rfl : x = 92 := by omega
      cases l with
      | nil => exact ⟨34, by omega, by omega, by decide⟩
      | cons y l =>
        simp only [pEsc] at hp
        by_cases b1 : y = 34
        · rw [if_pos b1] at hp; cases hp
        rw [if_neg b1] at hp
        by_cases b2 : y = 92
        · rw [if_pos b2] at hp; cases hp
        rw [if_neg b2] at hp
        by_cases b3 : y = 110
        · rw [if_pos b3] at hp; cases hp
        rw [if_neg b3] at hp
        by_cases b4 : y = 116
        · rw [if_pos b4] at hp; cases hp
        rw [if_neg b4] at hp
        by_cases b5 : y = 120
        · rw [if_pos b5] at hp
          subst b5
          cases l with
          | nil => exact ⟨0, by omega, by omega, by decide⟩
          | cons u l =>
            have hu := hl u (by simp)
            simp only [pSpec, pDig] at hp
            by_cases c1 : hexv u < 0
            · rw [if_pos c1] at hp; cases hp
            rw [if_neg c1] at hp
            simp only at hp
            have hu2 := hx_hexv u hu.1 hu.2 c1
            by_cases c2 : badHi (hexv u * 16) = true
            · rw [if_pos c2] at hp; cases hp
            rw [if_neg c2] at hp
            cases l with
            | nil =>
              simp only [badHi, Bool.and_eq_true, decide_eq_true_eq] at c2
              refine ⟨hexv u * 16 + 15, by omega, by omega, ?_⟩
              unfold esc
              rw [if_neg (by omega), if_neg (by omega), if_neg (by omega), if_neg (by omega), if_neg (by omega)]
              rw [show (hexv u * 16 + 15) / 16 = hexv u by omega, hu2.1]
              exact ⟨[_], rfl⟩
            | cons v l =>
              simp only at hp
              by_cases c3 : hexv v < 0
              · rw [if_pos c3] at hp; cases hp
              rw [if_neg c3] at hp
              simp only at hp
              by_cases c4 : badLo (hexv u * 16 + hexv v) = true
              · rw [if_pos c4] at hp; cases hp
              rw [if_neg c4] at hp
              cases hp
        rw [if_neg b5] at hp
        cases hp
theorem rone_f (s : ByteArray) (K : Nat) (hK : 258 ≤ K) : match pOne (bl s) with
    | .error k => noonmarkref02_one.f K s = some (0, if k = 9 then -1 else 0)
    | .ok (c, false, r) => noonmarkref02_one.f K s = some (c, ((esc c).length : Int))
    | .ok (c, true, r) => True := by
  cases hp : pOne (bl s) with
  | error k =>
    show noonmarkref02_one.l0 K s false 0 = _
    obtain ⟨v, e, h1, h2⟩ := rone_no s k hp 256 0 false K (by omega) (by omega) (by omega)
    have key := part_iff (bl s) (bl_byte s) k hp
    rw [e]
    by_cases h9 : k = 9
    · rw [if_pos h9, h1 (Or.inr (key.2 h9))]
    · rw [if_neg h9, h2 (fun h => h9 (key.1 (by rcases h with h | h; (cases h); exact h)))]
  | ok x =>
    obtain ⟨c, b, r⟩ := x
    cases b with
    | true => trivial
    | false =>
      obtain ⟨h0, h1, he⟩ := (one_ok (bl s) (bl_byte s) c false r hp).2 rfl
      show noonmarkref02_one.l0 K s false 0 = _
      exact rone_ok s c r hp c.toNat 0 false K (by omega) (by omega) (by omega)
theorem one_kind (l : List Int) (k : Int) (hp : pOne l = .error k) : k = 9 ∨ k = 3 := by
  cases l with
  | nil => injection hp with hp; omega
  | cons x l =>
    simp only [pOne] at hp
    split at hp
    · cases hp
    split at hp
    · injection hp with hp; omega
    split at hp
    · injection hp with hp; omega
    split at hp
    · cases hp
    cases l with
    | nil => injection hp with hp; omega
    | cons y l =>
      simp only [pEsc] at hp
      split at hp
      · cases hp
      split at hp
      · cases hp
      split at hp
      · cases hp
      split at hp
      · cases hp
      split at hp
      · cases l with
        | nil => injection hp with hp; omega
        | cons u l =>
          simp only [pSpec, pDig] at hp
          by_cases c1 : hexv u < 0
          · rw [if_pos c1] at hp; injection hp with hp; omega
          rw [if_neg c1] at hp
          simp only at hp
          by_cases c2 : badHi (hexv u * 16) = true
          · rw [if_pos c2] at hp; injection hp with hp; omega
          rw [if_neg c2] at hp
          cases l with
          | nil => injection hp with hp; omega
          | cons v l =>
            simp only at hp
            by_cases c3 : hexv v < 0
            · rw [if_pos c3] at hp; injection hp with hp; omega
            rw [if_neg c3] at hp
            simp only at hp
            by_cases c4 : badLo (hexv u * 16 + hexv v) = true
            · rw [if_pos c4] at hp; injection hp with hp; omega
            rw [if_neg c4] at hp
            cases hp
      · injection hp with hp; omega

end Go.Proofs.Ytmohadimhapacaa.Plain
