/- The pure part, over lists alone, of: for all lines a and b, with no condition, the Go law LexerJoins returns true (two lines with white between have the fields of both). -/
import Derived.Test.YtbhbjlohmalicaaPlainB
namespace Go.Proofs.Ytbhbjlohmalicaa.Pure
open Go.RowKit Go.Proofs.Ytbhbjlohmalicaa.S Go.Proofs.Ytbhbjlohmalicaa.Plain Go.Proofs.YtbhbjlohmalicaaW.PrintWords Go.Proofs.YtbhbjlohmalicaaW.PrintLast
set_option linter.unusedVariables false
set_option linter.unusedSimpArgs false

theorem joins_cmp : ∀ (p q z : List S34), z.length = p.length + q.length → z.length ≤ 1000 → (∀ i : Nat, i < p.length → rd_T34 z i = rd_T34 p i) → (∀ i : Nat, i < q.length → (rd_T34 z ((p.length + i : Nat) : Int)).f0 = (rd_T34 q i).f0) →
    ∀ (j k i : Nat), i + j = z.length → j < k → noonmarklaw07_LexerJoins.l1 k p q z i = some true := by
  intro p q z hzl hz1 hp1 hp2 j
  induction j with
  | zero =>
    intro k i hi hk
    obtain ⟨k, rfl⟩ : ∃ m, k = m + 1 := ⟨k - 1, by omega⟩
    simp only [noonmarklaw07_LexerJoins.l1]
    rw [if_neg (by omega), alive_f]; rfl
  | succ j ih =>
    intro k i hi hk
    obtain ⟨k, rfl⟩ : ∃ m, k = m + 1 := ⟨k - 1, by omega⟩
    have e1 : wrap64 ((i : Int) + 1) = ((i + 1 : Nat) : Int) := by rw [w64 (by omega) (by omega)]; omega
    have next := ih k (i + 1) (by omega) (by omega)
    have c1 : (i : Int) < (z.length : Int) := by omega
    have c0 : (0 : Int) ≤ (i : Int) := by omega
    simp only [noonmarklaw07_LexerJoins.l1]
    rw [if_pos c1]
    by_cases hp : i < p.length
    · have c2 : (i : Int) < (p.length : Int) := by omega
      have c3 : ¬ (i : Int) ≥ (p.length : Int) := by omega
      rw [if_pos c2, if_pos c0, hp1 i hp, if_neg c3, if_neg (by simp), e1]
      exact next
    · have c2 : ¬ (i : Int) < (p.length : Int) := by omega
      have c3 : (i : Int) ≥ (p.length : Int) := by omega
      have e2 : wrap64 ((i : Int) - (p.length : Int)) = ((i - p.length : Nat) : Int) := by rw [w64 (by omega) (by omega)]; omega
      have c4 : (0 : Int) ≤ ((i - p.length : Nat) : Int) := by omega
      have c5 : ((i - p.length : Nat) : Int) < (q.length : Int) := by omega
      have e3 := hp2 (i - p.length) (by omega)
      have e4 : p.length + (i - p.length) = i := by omega
      rw [e4] at e3
      rw [if_neg c2, if_pos c3, if_pos c0, e2, if_pos c4, if_pos c5, e3, if_pos rfl, e1]
      exact next

theorem joins_cmp2 : ∀ (p q : List S34) (d : Int), p.length + q.length ≤ 1000 → ∀ k, 1000 < k → noonmarklaw07_LexerJoins.l1 k p q (p ++ q.map (shF d)) 0 = some true := by
  intro p q d hl k hk
  have hlen : (p ++ q.map (shF d)).length = p.length + q.length := by simp
  refine joins_cmp p q _ hlen (by omega) (fun i hi => ?_) (fun i hi => ?_) (p.length + q.length) k 0 (by omega) (by omega)
  · rw [rd34 _ i (by omega), rd34 p i hi, List.getElem_append_left hi]
  · rw [rd34 _ (p.length + i) (by omega), rd34 q i hi, List.getElem_append_right (by omega)]
    simp [shF]

theorem joins_first (a b : ByteArray) (h1 : ¬ (a.size : Int) > 90) (h2 : ¬ (b.size : Int) > 90) (hsz : (a ++ (⟨#[32]⟩ : ByteArray)).size = a.size + 1) (hsz2 : (a ++ (⟨#[32]⟩ : ByteArray) ++ b).size = a.size + 1 + b.size) : ∀ (j k i : Nat), i + j = a.size → j + 1500 < k → (∀ n : Nat, n < i → bt a n ≠ 35) → noonmarklaw07_LexerJoins.l0 k a b i = some true := by
  intro j
  induction j with
  | zero =>
    intro k i hi hk hno
    obtain ⟨k, rfl⟩ : ∃ m, k = m + 1 := ⟨k - 1, by omega⟩
    obtain ⟨k, rfl⟩ : ∃ m, k = m + 1 := ⟨k - 1, by omega⟩
    obtain ⟨k, rfl⟩ : ∃ m, k = m + 1 := ⟨k - 1, by omega⟩
    simp only [noonmarklaw07_LexerJoins.l0]
    rw [if_neg (by omega), fields_eq a, if_neg (show ¬ (a.size : Int) > 200 by omega), fields_eq b, if_neg (show ¬ (b.size : Int) > 200 by omega), fields_eq (a ++ (⟨#[32]⟩ : ByteArray) ++ b), if_neg (show ¬ ((a ++ (⟨#[32]⟩ : ByteArray) ++ b).size : Int) > 200 by omega)]
    have hall : ∀ x ∈ bl a, x ≠ 35 := by
      intro x hx
      obtain ⟨n, hn, rfl⟩ := List.getElem_of_mem hx
      rw [bl_len] at hn
      rw [bl_get a n hn]; exact hno n (by omega)
    have hc : bl (a ++ (⟨#[32]⟩ : ByteArray) ++ b) = bl a ++ (32 :: bl b) := by
      rw [bl_append, bl_append]; simp [bl]
    have hlen : (a ++ (⟨#[32]⟩ : ByteArray)).size + b.size ≤ 9223372036854775807 := by omega
    by_cases hqa : 0 ≤ (fin a).q
    · rw [if_pos hqa, Option.bind_some]
      by_cases hqb : 0 ≤ (fin b).q
      · rw [if_pos hqb, Option.bind_some, if_pos (by omega), if_pos hlen]
        split <;> simp [noonmarklaw07_LexerJoins.j2, alive_f]
      · rw [if_neg hqb, Option.bind_some, if_pos (by omega), if_pos hlen]
        split <;> simp [noonmarklaw07_LexerJoins.j2, alive_f]
    · rw [if_neg hqa, Option.bind_some]
      by_cases hqb : 0 ≤ (fin b).q
      · rw [if_pos hqb, Option.bind_some, if_pos (by omega), if_pos hlen]
        split <;> simp [noonmarklaw07_LexerJoins.j2, alive_f]
      · rw [if_neg hqb, Option.bind_some, if_pos (by omega), if_pos hlen]
        have w := joins_fin a b _ hall hc (by omega) (by omega)
        have la := fin_len a
        have lb := fin_len b
        rw [if_neg (by omega), Option.bind_some, if_pos rfl, w.2]
        have e0 : ((0 : Int) != 0) = false := rfl
        simp only [noonmarklaw07_LexerJoins.j2, e0, Bool.false_eq_true, if_false, if_true]
        have e3 : wrap64 (((fin a).close.out.length : Int) + ((fin b).close.out.length : Int)) = (((fin a).close.out.length + (fin b).close.out.length : Nat) : Int) := by rw [w64 (by omega) (by omega)]; omega
        have hne : ((((fin a).close.out ++ (fin b).close.out.map (shF (a.size + 1))).length : Int) != wrap64 (((fin a).close.out.length : Int) + ((fin b).close.out.length : Int))) = false := by rw [e3]; simp
        rw [hne]
        clear hne e3
        simp only [noonmarklaw07_LexerJoins.j3, Bool.false_eq_true, if_false]
        exact joins_cmp2 _ _ _ (by omega) k (by omega)
  | succ j ih =>
    intro k i hi hk hno
    obtain ⟨k, rfl⟩ : ∃ m, k = m + 1 := ⟨k - 1, by omega⟩
    simp only [noonmarklaw07_LexerJoins.l0]
    have e1 : wrap64 ((i : Int) + 1) = ((i + 1 : Nat) : Int) := by rw [w64 (by omega) (by omega)]; omega
    rw [if_pos (by omega), if_pos (by omega)]
    by_cases h5 : bt a i = 35
    · rw [if_pos h5, alive_f]; rfl
    · rw [if_neg h5, e1]
      refine ih k (i + 1) (by omega) (by omega) (fun n hn => ?_)
      by_cases hni : n = i
      · subst hni; exact h5
      · exact hno n (by omega)

theorem LexerJoins : noonmarklaw07_LexerJoins.Pure := by
  intro a b ha hb
  refine ⟨2000, ?_⟩
  have stay : ∀ k, noonmarklaw07_LexerJoins.j0 (k + 1) a b true = some true := by
    intro k; simp [noonmarklaw07_LexerJoins.j0, alive_f]
  unfold noonmarklaw07_LexerJoins.f
  by_cases h1 : (a.size : Int) > 90
  · rw [if_pos h1]; exact stay 1999
  rw [if_neg h1]
  by_cases h2 : (b.size : Int) > 90
  · rw [decide_eq_true h2]; exact stay 1999
  rw [decide_eq_false h2]
  simp only [noonmarklaw07_LexerJoins.j0, Bool.false_eq_true, if_false]
  have s1 : (⟨#[32]⟩ : ByteArray).size = 1 := rfl
  have hsz : (a ++ (⟨#[32]⟩ : ByteArray)).size = a.size + 1 := by rw [ByteArray.size_append, s1]
  have hsz2 : (a ++ (⟨#[32]⟩ : ByteArray) ++ b).size = a.size + 1 + b.size := by rw [ByteArray.size_append, hsz]
  exact joins_first a b h1 h2 hsz hsz2 a.size 1999 0 (by omega) (by omega) (fun n hn => absurd hn (by omega))

end Go.Proofs.Ytbhbjlohmalicaa.Pure
