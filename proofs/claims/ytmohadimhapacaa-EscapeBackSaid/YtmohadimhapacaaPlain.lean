/- Texts as lists of bytes: what each byte is written as, and what a written text is read as. -/
import Derived.Test.YtmohadimhapacaaS5
namespace Go.Proofs.Ytmohadimhapacaa.Plain
open Go.RowKit Go.Proofs.Ytmohadimhapacaa.S Go.Proofs.YtmohadimhapacaaW.PrintWords Go.Proofs.YtmohadimhapacaaW.PrintLast
set_option linter.unusedVariables false
set_option linter.unusedSimpArgs false

theorem w64 {n : Int} (h1 : -9223372036854775808 ≤ n) (h2 : n ≤ 9223372036854775807) : wrap64 n = n := IntWalk.wrap64_in n ⟨h1, h2⟩
def bl (b : ByteArray) : List Int := b.data.toList.map fun c => (c.toNat : Int)
theorem bl_len (b : ByteArray) : (bl b).length = b.size := by simp [bl]
theorem bl_get (b : ByteArray) (i : Nat) (h : i < b.size) : (bl b)[i]'(by rw [bl_len]; exact h) = bt b i := by
  simp only [bl, bt, Int.toNat_natCast, h, dif_pos, List.getElem_map]
  rfl
theorem bl_drop (b : ByteArray) (i : Nat) (h : i < b.size) : (bl b).drop i = bt b i :: (bl b).drop (i + 1) := by
  rw [← bl_get b i h]; exact List.drop_eq_getElem_cons (by rw [bl_len]; exact h)
theorem bl_end (b : ByteArray) (i : Nat) (h : b.size ≤ i) : (bl b).drop i = [] := List.drop_of_length_le (by rw [bl_len]; exact h)
theorem bl_append (a b : ByteArray) : bl (a ++ b) = bl a ++ bl b := by simp [bl]
theorem bt_byte (b : ByteArray) (i : Int) : 0 ≤ bt b i ∧ bt b i < 256 := by
  unfold bt
  split
  · have := UInt8.toNat_lt (b[i.toNat])
    omega
  · omega
theorem bl_byte (b : ByteArray) : ∀ c ∈ bl b, 0 ≤ c ∧ c < 256 := by
  intro c hc
  simp only [bl, List.mem_map] at hc
  obtain ⟨x, _, rfl⟩ := hc
  have := UInt8.toNat_lt x
  omega
theorem bl_str (l : List Int) (h : ∀ c ∈ l, 0 ≤ c ∧ c < 256) : bl (strOfNums l) = l := by
  unfold bl
  rw [strOfNums_data, List.map_map]
  conv => rhs; rw [← List.map_id l]
  apply List.map_congr_left
  intro c hc
  have := h c hc
  simp only [Function.comp, id, UInt8.toNat_ofNat']
  omega
theorem str_bl (b : ByteArray) : strOfNums (bl b) = b := by
  apply ByteArray.ext
  apply Array.toList_inj.1
  rw [strOfNums_data]
  unfold bl
  rw [List.map_map]
  conv => rhs; rw [← List.map_id b.data.toList]
  apply List.map_congr_left
  intro c _
  simp
theorem str_append (l m : List Int) : strOfNums l ++ strOfNums m = strOfNums (l ++ m) := by
  apply ByteArray.ext
  apply Array.toList_inj.1
  rw [ByteArray.data_append, Array.toList_append, strOfNums_data, strOfNums_data, strOfNums_data, List.map_append]
theorem bl_inj {a b : ByteArray} (h : bl a = bl b) : a = b := by rw [← str_bl a, h, str_bl]
theorem bl_extract (b : ByteArray) (i j : Nat) : bl (b.extract i j) = ((bl b).take j).drop i := by
  unfold bl
  rw [ByteArray.data_extract, Array.toList_extract]
  simp [List.extract, List.drop_take, List.map_drop, List.map_take]
theorem bl_from (b : ByteArray) (i : Nat) : bl (b.extract i b.size) = (bl b).drop i := by
  rw [bl_extract, List.take_of_length_le (by rw [bl_len]; omega)]
theorem bl_upto (b : ByteArray) (j : Nat) : bl (b.extract 0 j) = (bl b).take j := by rw [bl_extract, List.drop_zero]
theorem toList_iff (a b : ByteArray) : a.toList = b.toList ↔ a = b := by
  rw [ByteArray.toList_eq, ByteArray.toList_eq]
  constructor
  · intro h; exact ByteArray.ext (Array.toList_inj.1 h)
  · rintro rfl; rfl

/-- a digit of base 16 -/
def hx (d : Int) : Int := if d < 10 then 48 + d else 87 + d
/-- a byte as Quote writes it -/
def esc (c : Int) : List Int := if c = 34 then [92, 34] else if c = 92 then [92, 92] else if c = 10 then [92, 110] else if c = 9 then [92, 116] else if 32 ≤ c ∧ c ≤ 126 then [c] else [92, 120, hx (c / 16), hx (c % 16)]
def flat (l : List Int) : List Int := l.flatMap esc
def quo (l : List Int) : List Int := 34 :: (flat l ++ [34])
theorem flat_cons (c : Int) (l : List Int) : flat (c :: l) = esc c ++ flat l := rfl
theorem flat_append (l m : List Int) : flat (l ++ m) = flat l ++ flat m := by simp [flat]
theorem upTo (P : Int → Prop) (h : ∀ c : Fin 256, P (c.val : Int)) : ∀ c : Int, 0 ≤ c → c < 256 → P c := by
  intro c h0 h1
  have := h ⟨c.toNat, by omega⟩
  rwa [show ((⟨c.toNat, by omega⟩ : Fin 256).val : Int) = c by simp; omega] at this
theorem esc_len : ∀ c : Int, 0 ≤ c → c < 256 → 1 ≤ (esc c).length ∧ (esc c).length ≤ 4 := upTo _ (by decide +kernel)
theorem esc_byte : ∀ c : Int, 0 ≤ c → c < 256 → ∀ x ∈ esc c, 32 ≤ x ∧ x ≤ 126 := upTo _ (by decide +kernel)
theorem flat_byte (l : List Int) (h : ∀ c ∈ l, 0 ≤ c ∧ c < 256) : ∀ x ∈ flat l, 32 ≤ x ∧ x ≤ 126 := by
  intro x hx
  unfold flat at hx
  obtain ⟨c, hc, hxc⟩ := List.mem_flatMap.1 hx
  exact esc_byte c (h c hc).1 (h c hc).2 x hxc
theorem quo_byte (l : List Int) (h : ∀ c ∈ l, 0 ≤ c ∧ c < 256) : ∀ x ∈ quo l, 32 ≤ x ∧ x ≤ 126 := by
  intro x hx
  unfold quo at hx
  rcases List.mem_cons.1 hx with rfl | hx
  · omega
  · rcases List.mem_append.1 hx with hx | hx
    · exact flat_byte l h x hx
    · rw [List.mem_singleton] at hx; omega
theorem flat_len (l : List Int) (h : ∀ c ∈ l, 0 ≤ c ∧ c < 256) : (flat l).length ≤ 4 * l.length := by
  induction l with
  | nil => simp [flat]
  | cons c r ih =>
    rw [flat_cons, List.length_append, List.length_cons]
    have h1 := esc_len c (h c (by simp)).1 (h c (by simp)).2
    have h2 := ih (fun x hx => h x (by simp [hx]))
    omega

/-! the reader of one byte, over a list -/
def pDig : List Int → Except Int (Int × List Int)
  | [] => .error 9
  | c :: r => if hexv c < 0 then .error 3 else .ok (hexv c, r)
def pSpec (l : List Int) : Except Int (Int × List Int) := match pDig l with
  | .error k => .error k
  | .ok (d, l1) => if badHi (d * 16) = true then .error 3 else match pDig l1 with
    | .error k => .error k
    | .ok (d2, l2) => if badLo (d * 16 + d2) = true then .error 3 else .ok (d * 16 + d2, l2)
def pEsc (c2 : Int) (l : List Int) : Except Int (Int × Bool × List Int) :=
  if c2 = 34 then .ok (c2, false, l) else if c2 = 92 then .ok (c2, false, l) else if c2 = 110 then .ok (10, false, l) else if c2 = 116 then .ok (9, false, l) else
  if c2 = 120 then (match pSpec l with | .error k => .error k | .ok (c3, l3) => .ok (c3, false, l3)) else .error 3
def pOne : List Int → Except Int (Int × Bool × List Int)
  | [] => .error 9
  | c :: r => if c = 34 then .ok (c, true, r) else if c < 32 then .error 3 else if c > 126 then .error 3 else if c ≠ 92 then .ok (c, false, r) else match r with
    | [] => .error 9
    | c2 :: r2 => pEsc c2 r2
theorem pDig_eq (s : ByteArray) (a : Nat) : rDigit s a = match pDig ((bl s).drop a) with | .error k => .error k | .ok (d, r) => .ok (d, ((a + 1 : Nat) : Int)) := by
  unfold rDigit rNext
  by_cases h : a < s.size
  · rw [if_pos (by omega), bl_drop s a h]
    simp only [pDig]
    by_cases hv : hexv (bt s a) < 0
    · rw [if_pos hv, if_pos hv]
    · rw [if_neg hv, if_neg hv]; rfl
  · rw [if_neg (by omega), bl_end s a (by omega)]; rfl
theorem pDig_rest {s : ByteArray} {a : Nat} {d : Int} {r : List Int} (h : pDig ((bl s).drop a) = .ok (d, r)) : r = (bl s).drop (a + 1) := by
  by_cases hl : a < s.size
  · rw [bl_drop s a hl] at h
    simp only [pDig] at h
    split at h
    · cases h
    · injection h with h; injection h with _ h; exact h.symm
  · rw [bl_end s a (by omega)] at h; cases h
/-- the reader at a place, and the list behind that place -/
def At (s : ByteArray) (x : Except Int (Int × Bool × Int)) (y : Except Int (Int × Bool × List Int)) : Prop := match y with
  | .error k => x = .error k
  | .ok (c, b, r) => ∃ a : Nat, x = .ok (c, b, (a : Int)) ∧ r = (bl s).drop a ∧ a ≤ s.size
theorem pEsc_eq (s : ByteArray) (c2 : Int) (a : Nat) (ha : a ≤ s.size) : At s (rEsc s c2 a) (pEsc c2 ((bl s).drop a)) := by
  unfold rEsc pEsc
  by_cases h1 : c2 = 34
  · rw [if_pos h1, if_pos h1]; exact ⟨a, rfl, rfl, ha⟩
  rw [if_neg h1, if_neg h1]
  by_cases h1 : c2 = 92
  · rw [if_pos h1, if_pos h1]; exact ⟨a, rfl, rfl, ha⟩
  rw [if_neg h1, if_neg h1]
  by_cases h1 : c2 = 110
  · rw [if_pos h1, if_pos h1]; exact ⟨a, rfl, rfl, ha⟩
  rw [if_neg h1, if_neg h1]
  by_cases h1 : c2 = 116
  · rw [if_pos h1, if_pos h1]; exact ⟨a, rfl, rfl, ha⟩
  rw [if_neg h1, if_neg h1]
  by_cases h1 : c2 = 120
  · rw [if_pos h1, if_pos h1]
    unfold rSpecial pSpec
    rw [pDig_eq]
    cases hp : pDig ((bl s).drop a) with
    | error k => exact rfl
    | ok x =>
      obtain ⟨d, r⟩ := x
      obtain rfl := pDig_rest hp
      have hlt : a < s.size := by
        by_cases hl : a < s.size
        · exact hl
        · rw [bl_end s a (by omega)] at hp; cases hp
      simp only
      by_cases h2 : badHi (d * 16) = true
      · rw [if_pos h2, if_pos h2]; exact rfl
      rw [if_neg h2, if_neg h2, pDig_eq]
      cases hp2 : pDig ((bl s).drop (a + 1)) with
      | error k => exact rfl
      | ok x =>
        obtain ⟨d2, r2⟩ := x
        obtain rfl := pDig_rest hp2
        have hlt : a + 1 < s.size := by
          by_cases hl : a + 1 < s.size
          · exact hl
          · rw [bl_end s (a + 1) (by omega)] at hp2; cases hp2
        simp only
        by_cases h3 : badLo (d * 16 + d2) = true
        · rw [if_pos h3, if_pos h3]; exact rfl
        rw [if_neg h3, if_neg h3]
        exact ⟨a + 1 + 1, rfl, rfl, hlt⟩
  rw [if_neg h1, if_neg h1]
  exact rfl
theorem pOne_eq (s : ByteArray) (a : Nat) (ha : a ≤ s.size) : At s (rOne s a) (pOne ((bl s).drop a)) := by
  unfold rOne rNext
  by_cases h : a < s.size
  · rw [if_pos (by omega), bl_drop s a h]
    simp only [pOne]
    by_cases h1 : bt s a = 34
    · rw [if_pos h1, if_pos h1]; exact ⟨a + 1, rfl, rfl, h⟩
    rw [if_neg h1, if_neg h1]
    by_cases h1 : bt s a < 32
    · rw [if_pos h1, if_pos h1]; exact rfl
    rw [if_neg h1, if_neg h1]
    by_cases h1 : bt s a > 126
    · rw [if_pos h1, if_pos h1]; exact rfl
    rw [if_neg h1, if_neg h1]
    by_cases h1 : bt s a ≠ 92
    · rw [if_pos h1, if_pos h1]; exact ⟨a + 1, rfl, rfl, h⟩
    rw [if_neg h1, if_neg h1]
    by_cases h2 : a + 1 < s.size
    · rw [if_pos (by omega), bl_drop s (a + 1) h2]
      exact pEsc_eq s _ (a + 1 + 1) (by omega)
    · rw [if_neg (by omega), bl_end s (a + 1) (by omega)]
      exact rfl
  · rw [if_neg (by omega), bl_end s a (by omega)]
    exact rfl

/-! what is written is read, and what is read was written -/
theorem hexv_hx : ∀ c : Int, 0 ≤ c → c < 256 → c < 16 → hexv (hx c) = c := upTo _ (by decide +kernel)
theorem hx_hexv : ∀ c : Int, 0 ≤ c → c < 256 → ¬ hexv c < 0 → hx (hexv c) = c ∧ hexv c < 16 := upTo _ (by decide +kernel)
theorem one_esc (c : Int) (h0 : 0 ≤ c) (h1 : c < 256) (r : List Int) : pOne (esc c ++ r) = .ok (c, false, r) := by
  unfold esc
  by_cases a1 : c = 34
  · subst a1; rfl
  rw [if_neg a1]
  by_cases a2 : c = 92
  · subst a2; rfl
  rw [if_neg a2]
  by_cases a3 : c = 10
  · subst a3; rfl
  rw [if_neg a3]
  by_cases a4 : c = 9
  · subst a4; rfl
  rw [if_neg a4]
  by_cases a5 : 32 ≤ c ∧ c ≤ 126
  · rw [if_pos a5]
    show (if c = 34 then _ else if c < 32 then _ else if c > 126 then _ else if c ≠ 92 then _ else _) = _
    rw [if_neg a1, if_neg (by omega), if_neg (by omega), if_pos a2]; rfl
  · rw [if_neg a5]
    have e1 := hexv_hx (c / 16) (by omega) (by omega) (by omega)
    have e2 := hexv_hx (c % 16) (by omega) (by omega) (by omega)
    show (match pSpec (hx (c / 16) :: hx (c % 16) :: r) with | .error k => Except.error k | .ok (c3, l3) => .ok (c3, false, l3)) = _
    have : pSpec (hx (c / 16) :: hx (c % 16) :: r) = .ok (c, r) := by
      unfold pSpec
      simp only [pDig, e1, e2]
      rw [if_neg (by omega)]
      simp only
      rw [if_neg (by simp only [badHi, Bool.and_eq_true, decide_eq_true_eq]; omega), if_neg (by omega)]
      simp only
      rw [if_neg (by simp only [badLo, Bool.or_eq_true, Bool.and_eq_true, decide_eq_true_eq, beq_iff_eq]; omega)]
      rw [e2, show c / 16 * 16 + c % 16 = c by omega]
    rw [this]
theorem esc_nm (c : Int) (h : 32 ≤ c ∧ c ≤ 126) (h1 : c ≠ 34) (h2 : c ≠ 92) : esc c = [c] := by
  unfold esc
  rw [if_neg h1, if_neg h2, if_neg (by omega), if_neg (by omega), if_pos h]
/-- what one reads -/
theorem one_ok (l : List Int) (hl : ∀ c ∈ l, 0 ≤ c ∧ c < 256) (c : Int) (b : Bool) (r : List Int) (h : pOne l = .ok (c, b, r)) :
    (b = true → l = 34 :: r) ∧ (b = false → 0 ≤ c ∧ c < 256 ∧ l = esc c ++ r) := by
  cases l with
  | nil => cases h
  | cons x l =>
    have hx0 := hl x (by simp)
    simp only [pOne] at h
    by_cases a1 : x = 34
    · rw [if_pos a1] at h; injection h with h; injection h with h h'; injection h' with h' h''
      subst h'; subst h''; exact ⟨fun _ => by rw [a1], fun h => by cases h⟩
    rw [if_neg a1] at h
    by_cases a2 : x < 32
    · rw [if_pos a2] at h; cases h
    rw [if_neg a2] at h
    by_cases a3 : x > 126
    · rw [if_pos a3] at h; cases h
    rw [if_neg a3] at h
    by_cases a4 : x ≠ 92
    · rw [if_pos a4] at h; injection h with h; injection h with h h'; injection h' with h' h''
      subst h; subst h'; subst h''
      exact ⟨fun h => (by cases h), fun _ => ⟨hx0.1, hx0.2, by rw [esc_nm x (by omega) a1 a4]; rfl⟩⟩
    rw [if_neg a4] at h
    obtain rfl : x = 92 := by omega
    cases l with
    | nil => cases h
    | cons y l =>
      simp only [pEsc] at h
      by_cases b1 : y = 34
      · rw [if_pos b1] at h; injection h with h; injection h with h h'; injection h' with h' h''
        subst h; subst h'; subst h''; subst b1
        exact ⟨fun h => (by cases h), fun _ => ⟨by omega, by omega, rfl⟩⟩
      rw [if_neg b1] at h
      by_cases b2 : y = 92
      · rw [if_pos b2] at h; injection h with h; injection h with h h'; injection h' with h' h''
        subst h; subst h'; subst h''; subst b2
        exact ⟨fun h => (by cases h), fun _ => ⟨by omega, by omega, rfl⟩⟩
      rw [if_neg b2] at h
      by_cases b3 : y = 110
      · rw [if_pos b3] at h; injection h with h; injection h with h h'; injection h' with h' h''
        subst h; subst h'; subst h''; subst b3
        exact ⟨fun h => (by cases h), fun _ => ⟨by omega, by omega, rfl⟩⟩
      rw [if_neg b3] at h
      by_cases b4 : y = 116
      · rw [if_pos b4] at h; injection h with h; injection h with h h'; injection h' with h' h''
        subst h; subst h'; subst h''; subst b4
        exact ⟨fun h => (by cases h), fun _ => ⟨by omega, by omega, rfl⟩⟩
      rw [if_neg b4] at h
      by_cases b5 : y = 120
      · rw [if_pos b5] at h
        subst b5
        cases l with
        | nil => cases h
        | cons u l =>
          have hu := hl u (by simp)
          simp only [pSpec, pDig] at h
          by_cases c1 : hexv u < 0
          · rw [if_pos c1] at h; cases h
          rw [if_neg c1] at h
          simp only at h
          have hu2 := hx_hexv u hu.1 hu.2 c1
          by_cases c2 : badHi (hexv u * 16) = true
          · rw [if_pos c2] at h; cases h
          rw [if_neg c2] at h
          cases l with
          | nil => cases h
          | cons v l =>
            have hv := hl v (by simp)
            simp only at h
            by_cases c3 : hexv v < 0
            · rw [if_pos c3] at h; cases h
            rw [if_neg c3] at h
            simp only at h
            have hv2 := hx_hexv v hv.1 hv.2 c3
            by_cases c4 : badLo (hexv u * 16 + hexv v) = true
            · rw [if_pos c4] at h; cases h
            rw [if_neg c4] at h
            injection h with h; injection h with h h'; injection h' with h' h''
            subst h; subst h'; subst h''
            refine ⟨fun h => (by cases h), fun _ => ⟨by omega, by omega, ?_⟩⟩
            simp only [badLo, badHi, Bool.or_eq_true, Bool.and_eq_true, decide_eq_true_eq, beq_iff_eq] at c2 c4
            unfold esc
            rw [if_neg (by omega), if_neg (by omega), if_neg (by omega), if_neg (by omega), if_neg (by omega)]
            rw [show (hexv u * 16 + hexv v) / 16 = hexv u by omega, show (hexv u * 16 + hexv v) % 16 = hexv v by omega, hu2.1, hv2.1]
            rfl
      rw [if_neg b5] at h
      cases h

end Go.Proofs.Ytmohadimhapacaa.Plain
