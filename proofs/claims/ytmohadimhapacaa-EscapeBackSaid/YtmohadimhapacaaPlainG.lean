/- Fields, the program's and the reference's: both are one walk over the text. -/
import Derived.Test.YtmohadimhapacaaPlainD
import Derived.Test.YtmohadimhapacaaPlainF
import Derived.Test.YtmohadimhapacaaS6
namespace Go.Proofs.Ytmohadimhapacaa.Plain
open Go.RowKit Go.Proofs.Ytmohadimhapacaa.S Go.Proofs.YtmohadimhapacaaW.PrintWords Go.Proofs.YtmohadimhapacaaW.PrintLast
set_option linter.unusedVariables false
set_option linter.unusedSimpArgs false

def spn : List Int → Nat
  | [] => 0
  | c :: r => if 32 < c ∧ c ≤ 126 then spn r + 1 else 0
theorem spn_cons (c : Int) (r : List Int) : spn (c :: r) = if 32 < c ∧ c ≤ 126 then spn r + 1 else 0 := rfl
theorem spn_le (l : List Int) : spn l ≤ l.length := by
  induction l with
  | nil => simp [spn]
  | cons c r ih =>
    simp only [spn, List.length_cons]
    split <;> omega
theorem visible_f (c : Int) : escape_visible.f c = some (decide (32 < c ∧ c ≤ 126)) := by
  unfold escape_visible.f
  by_cases h : c > 32
  · rw [if_pos h]
    congr 1
    rw [decide_eq_decide]
    exact ⟨fun h2 => ⟨h, h2⟩, fun h2 => h2.2⟩
  · rw [if_neg h]
    congr 1
    rw [eq_comm, decide_eq_false_iff_not]
    exact fun h2 => h h2.1
theorem span_l0 (s : ByteArray) (hs : s.size ≤ 100000) : ∀ (m i K : Nat), i + m = s.size → m + 1 ≤ K → escape_span.l0 K s (i : Int) = some ((i : Int) + (spn ((bl s).drop i) : Int)) := by
  intro m
  induction m with
  | zero =>
    intro i K hi hK
    obtain ⟨K, rfl⟩ : ∃ q, K = q + 1 := ⟨K - 1, by omega⟩
    simp only [escape_span.l0]
    rw [if_neg (by omega), bl_end s i (by omega)]
    simp [spn]
  | succ m ih =>
    intro i K hi hK
    obtain ⟨K, rfl⟩ : ∃ q, K = q + 1 := ⟨K - 1, by omega⟩
    simp only [escape_span.l0]
    rw [if_pos (by omega), if_pos (by omega), visible_f, Option.bind_some, bl_drop s i (by omega)]
    simp only [spn]
    by_cases h : 32 < bt s i ∧ bt s i ≤ 126
    · rw [if_pos (decide_eq_true h), if_pos h, w64 (by omega) (by omega), show ((i : Int) + 1) = ((i + 1 : Nat) : Int) by omega, ih (i + 1) K (by omega) (by omega)]
      congr 1; omega
    · rw [if_neg (by simpa using h), if_neg h]
      simp
theorem span_f (s : ByteArray) (hs : s.size ≤ 100000) (K : Nat) (hK : s.size + 1 ≤ K) : escape_span.f K s = some (spn (bl s) : Int) := by
  unfold escape_span.f
  have := span_l0 s hs s.size 0 K (by omega) hK
  rw [List.drop_zero] at this
  rw [show (0 : Int) = ((0 : Nat) : Int) from rfl, this]
  simp

/-- what Unquote gives -/
def uq (s : ByteArray) : ByteArray × Int × Int := if 0 < s.size ∧ bt s 0 = 34 then told (unq (s.size + 1) s 1 []) else (⟨#[]⟩, 0, 3)
theorem unquote_uq (s : ByteArray) (hs : s.size ≤ 100000) : escape_Unquote.f s = some (uq s) := unquote_f s hs
theorem uq_bd (s : ByteArray) (h : 0 < s.size ∧ bt s 0 = 34) (hk : (uq s).2.2 = 0) : 2 ≤ (uq s).2.1 ∧ (uq s).2.1 ≤ s.size := by
  unfold uq at *
  rw [if_pos h] at *
  rcases unquote_ok s h with ⟨m, b, e1, e2, e3, e4, e5⟩ | ⟨k, e1, e2⟩
  · rw [e1, show told (Except.ok (m, (b : Int))) = (strOfNums m, (b : Int), 0) from rfl]
    unfold quo at e4
    simp at e4
    dsimp only
    omega
  · rw [e1, show told (Except.error k) = (⟨#[]⟩, 0, k) from rfl] at hk
    dsimp only at hk
    omega
/-- the walk over a text's fields -/
def fl : Nat → ByteArray → List ByteArray → List ByteArray × Int
  | 0, _, _ => ([], 0)
  | k + 1, s, out => if 0 < s.size ∧ bt s 0 = 34 then (if (uq s).2.2 = 0 then
        (let r := s.extract (uq s).2.1.toNat s.size
         if r.size = 0 then (out ++ [(uq s).1], 0) else if bt r 0 = 32 then fl k (r.extract 1 r.size) (out ++ [(uq s).1]) else ([], 3))
      else ([], (uq s).2.2))
    else if spn (bl s) = 0 then ([], 3) else
      (let r := s.extract (spn (bl s)) s.size
       if r.size = 0 then (out ++ [s.extract 0 (spn (bl s))], 0) else if bt r 0 = 32 then fl k (r.extract 1 r.size) (out ++ [s.extract 0 (spn (bl s))]) else ([], 3))
theorem from_size (s : ByteArray) (i : Nat) : (s.extract i s.size).size = s.size - i := by rw [← bl_len, bl_from, List.length_drop, bl_len]
theorem cut32 (r : ByteArray) (h : r.size ≠ 0) : strings_CutPrefix.f r ⟨#[32]⟩ = some (if bt r 0 = 32 then (r.extract 1 r.size, true) else (r, false)) := by
  rw [cut_f, show bl (⟨#[32]⟩ : ByteArray) = [32] from rfl, show (⟨#[32]⟩ : ByteArray).size = 1 from rfl]
  have hd := bl_drop r 0 (by omega)
  rw [List.drop_zero] at hd
  by_cases h32 : bt r 0 = 32
  · rw [if_pos h32, if_pos ((pre1 32 _).2 ⟨_, by rw [← h32]; exact hd⟩)]
  · rw [if_neg h32, if_neg]
    intro hp
    obtain ⟨q, hq⟩ := (pre1 32 _).1 hp
    rw [hd] at hq
    injection hq with hq _
    exact h32 hq
theorem prefix34 (s : ByteArray) : strings_HasPrefix.f s ⟨#[34]⟩ = some (decide (0 < s.size ∧ bt s 0 = 34)) := prefix_one s
theorem fields_l0 : ∀ (n : Nat) (s : ByteArray) (out : List ByteArray) (K : Nat), s.size + 1 ≤ n → s.size ≤ 100000 → out.length + s.size ≤ 200000 → 3 * n + s.size + 10 ≤ K →
    escape_Fields.l0 K s out true = some (fl n s out) := by
  intro n
  induction n with
  | zero => intro s out K h; omega
  | succ n ih =>
    intro s out K hn hs ho hK
    obtain ⟨K, rfl⟩ : ∃ q, K = q + 1 + 1 + 1 := ⟨K - 3, by omega⟩
    have hsp := spn_le (bl s)
    rw [bl_len] at hsp
    -- the end of a round
    have tail : ∀ (x5 : ByteArray) (x : Nat), 0 < x → x ≤ s.size → escape_Fields.j2 (K + 1) s out x5 (x : Int) =
        some (let r := s.extract x s.size
         if r.size = 0 then (out ++ [x5], 0) else if bt r 0 = 32 then fl n (r.extract 1 r.size) (out ++ [x5]) else ([], 3)) := by
      intro x5 x h0 h1
      have hsz := from_size s x
      simp only [escape_Fields.j2]
      rw [if_neg (by omega), if_pos (by omega), Option.bind_some, if_pos (by omega), if_pos (by omega), Int.toNat_natCast]
      generalize hr : s.extract x s.size = r at *
      by_cases h : r.size = 0
      · have : r.toList = [] := by rw [nil_iff]; exact List.eq_nil_of_length_eq_zero (by rw [bl_len]; exact h)
        rw [if_pos this, if_pos h]
      · have : ¬ r.toList = [] := by rw [nil_iff]; intro h'; exact h (by rw [← bl_len, h']; rfl)
        rw [if_neg this, if_neg h, cut32 r h, Option.bind_some]
        by_cases h32 : bt r 0 = 32
        · rw [if_pos h32, if_pos h32, if_pos rfl]
          have hrs := from_size r 1
          exact ih (r.extract 1 r.size) (out ++ [x5]) K (by omega) (by omega) (by rw [List.length_append, List.length_singleton]; omega) (by omega)
        · rw [if_neg h32, if_neg h32, if_neg (show ¬ ((r, false) : ByteArray × Bool).2 = true by simp)]
    simp only [escape_Fields.l0]
    rw [if_pos trivial, span_f s hs (K + 2) (by omega), Option.bind_some]
    have hj1 : ∀ x5 : ByteArray, (spn (bl s) ≠ 0 → x5 = s.extract 0 (spn (bl s))) → escape_Fields.j1 (K + 1 + 1) s out x5 (spn (bl s) : Int) = some (fl (n + 1) s out) := by
      intro x5 hx5
      simp only [escape_Fields.j1]
      rw [prefix34, Option.bind_some]
      simp only [fl]
      by_cases h : 0 < s.size ∧ bt s 0 = 34
      · rw [if_pos (decide_eq_true h), if_pos h, unquote_uq s hs, Option.bind_some]
        by_cases hk : (uq s).2.2 = 0
        · rw [if_pos hk, if_pos hk]
          have hb := uq_bd s h hk
          have := tail (uq s).1 (uq s).2.1.toNat (by omega) (by omega)
          rw [Int.toNat_of_nonneg (by omega)] at this
          exact this
        · rw [if_neg hk, if_neg hk]
      · rw [if_neg (by simpa using h), if_neg h]
        by_cases h0 : spn (bl s) = 0
        · rw [if_pos h0]
          simp only [escape_Fields.j2]
          rw [if_pos (by omega)]
        · rw [if_neg h0, tail x5 (spn (bl s)) (by omega) hsp, hx5 h0]
    by_cases h0 : (spn (bl s) : Int) > 0
    · rw [if_pos h0, if_pos (by omega), if_pos (by omega)]
      exact hj1 _ (fun _ => by rw [Int.toNat_natCast])
    · rw [if_neg h0]
      exact hj1 _ (fun h => absurd h (by omega))
theorem fields_f (s : ByteArray) (hs : s.size ≤ 100000) (K : Nat) (hK : 4 * s.size + 13 ≤ K) : escape_Fields.f K s = some (if s.size = 0 then ([], 0) else fl (s.size + 1) s []) := by
  unfold escape_Fields.f
  by_cases h : s.size = 0
  · have : s.toList = [] := by rw [nil_iff]; exact List.eq_nil_of_length_eq_zero (by rw [bl_len]; exact h)
    obtain ⟨K, rfl⟩ : ∃ q, K = q + 1 := ⟨K - 1, by omega⟩
    rw [if_pos h, this]
    rfl
  · have : (s.toList != []) = true := by rw [bne_iff_ne, Ne, nil_iff]; intro h'; exact h (by rw [← bl_len, h']; rfl)
    rw [if_neg h, this]
    exact fields_l0 _ s [] K (by omega) hs (by simp; omega) (by omega)

/-! the reference's -/
theorem rl1 (s : ByteArray) (hs : s.size ≤ 100000) (out : List ByteArray) (ho : out.length ≤ 200000) (M : Nat) : ∀ (m i K : Nat), i + m = s.size → M + spn ((bl s).drop i) + 1 ≤ K →
    ∃ K', M ≤ K' ∧ noonmarkref02_Fields.l1 K s out (i : Int) = (if i + spn ((bl s).drop i) = 0 then some ([], 3) else noonmarkref02_Fields.j3 K' (s.extract (i + spn ((bl s).drop i)) s.size) (out ++ [s.extract 0 (i + spn ((bl s).drop i))])) := by
  intro m
  induction m with
  | zero =>
    intro i K hi hK
    obtain ⟨K, rfl⟩ : ∃ q, K = q + 1 := ⟨K - 1, by omega⟩
    refine ⟨K, by omega, ?_⟩
    simp only [noonmarkref02_Fields.l1]
    rw [if_neg (by omega), bl_end s i (by omega), show i + spn [] = i from rfl]
    by_cases h : i = 0
    · rw [if_pos (by omega), if_pos h]
    · rw [if_neg (by omega), if_neg h, if_pos (by omega), if_pos (by omega), if_pos (by omega), Int.toNat_natCast]
  | succ m ih =>
    intro i K hi hK
    obtain ⟨K, rfl⟩ : ∃ q, K = q + 1 := ⟨K - 1, by omega⟩
    simp only [noonmarkref02_Fields.l1]
    rw [bl_drop s i (by omega), spn_cons] at hK
    rw [if_pos (by omega), if_pos (by omega), bl_drop s i (by omega), spn_cons]
    have stop : ∃ K', M ≤ K' ∧ (if (i : Int) = 0 then some ([], 3) else if (i : Int) ≤ (s.size : Int) then (if out.length < 8796093022208 then noonmarkref02_Fields.j3 K (s.extract ((i : Int)).toNat s.size) (out ++ [s.extract 0 ((i : Int)).toNat]) else none) else none) =
        (if i + 0 = 0 then some ([], 3) else noonmarkref02_Fields.j3 K' (s.extract (i + 0) s.size) (out ++ [s.extract 0 (i + 0)])) := by
      refine ⟨K, by omega, ?_⟩
      by_cases h : i = 0
      · rw [if_pos (by omega), if_pos (by omega)]
      · rw [if_neg (show ¬ (i : Int) = 0 by omega), if_pos (show (i : Int) ≤ s.size by omega), if_pos (show out.length < 8796093022208 by omega), if_neg (show ¬ i + 0 = 0 by omega), Int.toNat_natCast]; rfl
    by_cases h1 : bt s i > 32
    · rw [if_pos h1]
      by_cases h2 : bt s i ≤ 126
      · rw [if_pos h2, if_pos ⟨h1, h2⟩, w64 (by omega) (by omega), show ((i : Int) + 1) = ((i + 1 : Nat) : Int) by omega]
        rw [if_pos ⟨h1, h2⟩] at hK
        obtain ⟨K', h3, h4⟩ := ih (i + 1) K (by omega) (by omega)
        refine ⟨K', h3, ?_⟩
        rw [h4, show i + (spn ((bl s).drop (i + 1)) + 1) = i + 1 + spn ((bl s).drop (i + 1)) by omega]
      · rw [if_neg h2, if_neg (show ¬ (32 < bt s i ∧ bt s i ≤ 126) from fun h => h2 h.2)]; exact stop
    · rw [if_neg h1, if_neg (show ¬ (32 < bt s i ∧ bt s i ≤ 126) from fun h => h1 h.1)]; exact stop
theorem rfields_l0 : ∀ (n : Nat) (s : ByteArray) (out : List ByteArray) (K : Nat), s.size + 1 ≤ n → s.size ≤ 100000 → out.length + s.size ≤ 200000 → 3 * n + 3 * s.size + 300 ≤ K →
    noonmarkref02_Fields.l0 K s out = some (fl n s out) := by
  intro n
  induction n with
  | zero => intro s out K h; omega
  | succ n ih =>
    intro s out K hn hs ho hK
    obtain ⟨K, rfl⟩ : ∃ q, K = q + 1 + 1 := ⟨K - 2, by omega⟩
    have hsp := spn_le (bl s)
    rw [bl_len] at hsp
    have tail : ∀ (Q : Nat) (x5 : ByteArray) (x : Nat), 0 < x → x ≤ s.size → 3 * n + 3 * (s.size - x) + 301 ≤ Q → noonmarkref02_Fields.j3 Q (s.extract x s.size) (out ++ [x5]) =
        some (let r := s.extract x s.size
         if r.size = 0 then (out ++ [x5], 0) else if bt r 0 = 32 then fl n (r.extract 1 r.size) (out ++ [x5]) else ([], 3)) := by
      intro Q x5 x h0 h1 hQ
      obtain ⟨Q, rfl⟩ : ∃ q, Q = q + 1 := ⟨Q - 1, by omega⟩
      have hsz := from_size s x
      simp only [noonmarkref02_Fields.j3]
      generalize hr : s.extract x s.size = r at *
      by_cases h : r.size = 0
      · rw [if_pos (by omega), if_pos h]
      · rw [if_neg (by omega), if_pos (by omega), if_neg h]
        by_cases h32 : bt r 0 = 32
        · rw [if_pos h32, if_pos (by omega), if_pos h32]
          have hrs := from_size r 1
          exact ih (r.extract 1 r.size) (out ++ [x5]) Q (by omega) (by omega) (by rw [List.length_append, List.length_singleton]; omega) (by omega)
        · rw [if_neg h32, if_neg h32]
    have h1 : noonmarkref02_Fields.l0 (K + 1 + 1) s out = noonmarkref02_Fields.j1 (K + 1) s out (decide (0 < s.size ∧ bt s 0 = 34)) := by
      simp only [noonmarkref02_Fields.l0]
      by_cases h0 : s.size = 0
      · rw [if_neg (by omega), decide_eq_false (fun h => by omega)]
      · rw [if_pos (by omega), if_pos (by omega)]
        congr 1
        by_cases h34 : bt s 0 = 34
        · rw [show (bt s 0 == 34) = true from beq_iff_eq.2 h34, decide_eq_true ⟨by omega, h34⟩]
        · rw [show (bt s 0 == 34) = false from beq_eq_false_iff_ne.2 h34, decide_eq_false (fun h => h34 h.2)]
    rw [h1]
    simp only [noonmarkref02_Fields.j1, fl]
    by_cases h : 0 < s.size ∧ bt s 0 = 34
    · rw [if_pos (decide_eq_true h), if_pos h, runquote_f s hs K (by omega), unquote_uq s hs, Option.bind_some]
      by_cases hk : (uq s).2.2 = 0
      · have hb := uq_bd s h hk
        rw [if_pos hk, if_pos hk, if_pos (by omega), if_pos (by omega), if_pos (by omega)]
        exact tail K (uq s).1 (uq s).2.1.toNat (by omega) (by omega) (by omega)
      · rw [if_neg hk, if_neg hk]
    · rw [if_neg (by simpa using h), if_neg h]
      by_cases h0 : spn (bl s) = 0
      · obtain ⟨K', h3, h4⟩ := rl1 s hs out (by omega) 0 s.size 0 K (by omega) (by rw [List.drop_zero]; omega)
        rw [List.drop_zero, Nat.zero_add, if_pos h0] at h4
        rw [if_pos h0]
        exact h4
      · obtain ⟨K', h3, h4⟩ := rl1 s hs out (by omega) (K - spn (bl s) - 1) s.size 0 K (by omega) (by rw [List.drop_zero]; omega)
        rw [List.drop_zero, Nat.zero_add, if_neg h0] at h4
        rw [if_neg h0]
        rw [show (0 : Int) = ((0 : Nat) : Int) from rfl, h4]
        exact tail K' _ (spn (bl s)) (by omega) hsp (by omega)
theorem rfields_f (s : ByteArray) (hs : s.size ≤ 100000) (K : Nat) (hK : 6 * s.size + 303 ≤ K) : noonmarkref02_Fields.f K s = some (if s.size = 0 then ([], 0) else fl (s.size + 1) s []) := by
  unfold noonmarkref02_Fields.f
  by_cases h : s.size = 0
  · rw [if_pos (by omega), if_pos h]
  · rw [if_neg (by omega), if_neg h]
    exact rfields_l0 _ s [] K (by omega) hs (by simp; omega) (by omega)

end Go.Proofs.Ytmohadimhapacaa.Plain
