/- The pure part, over lists alone, of: for all texts s and note and ints n, with no condition, the Go law LexerWhite returns true (white ahead moves the columns, a note behind changes nothing). -/
import Derived.Test.YtbhbjlohmalicaaPlainB
namespace Go.Proofs.Ytbhbjlohmalicaa.Pure
open Go.RowKit Go.Proofs.Ytbhbjlohmalicaa.S Go.Proofs.Ytbhbjlohmalicaa.Plain Go.Proofs.YtbhbjlohmalicaaW.PrintWords Go.Proofs.YtbhbjlohmalicaaW.PrintLast
set_option linter.unusedVariables false
set_option linter.unusedSimpArgs false

theorem LexerWhite : noonmarklaw07_LexerWhite.Pure := by
  intro b x n hb hx wn
  have bn := Go.bounds_i64 wn
  refine ⟨1000, ?_⟩
  have stay : ∀ k, noonmarklaw07_LexerWhite.j0 (k + 1) b x n true = some true := by
    intro k; simp [noonmarklaw07_LexerWhite.j0, alive_f]
  unfold noonmarklaw07_LexerWhite.f
  by_cases h1 : (b.size : Int) > 100
  · rw [if_pos h1]; exact stay 999
  rw [if_neg h1]
  by_cases h2 : (x.size : Int) > 50
  · rw [if_pos h2]; exact stay 999
  rw [if_neg h2]
  by_cases h3 : n < 0
  · rw [if_pos h3]; exact stay 999
  rw [if_neg h3]
  by_cases h4 : n > 20
  · rw [decide_eq_true h4]; exact stay 999
  rw [decide_eq_false h4]
  obtain ⟨N, rfl⟩ := Int.eq_ofNat_of_zero_le (show 0 ≤ n by omega)
  have tabs : ∀ j : Nat, ∃ t : ByteArray, t.size = j + b.size ∧ bl t = List.replicate j 9 ++ bl b ∧ (⟨#[9]⟩ : ByteArray) ++ t = (⟨#[9]⟩ : ByteArray) ++ t := fun j => by
    induction j with
    | zero => exact ⟨b, by simp, by simp, rfl⟩
    | succ j ih =>
      obtain ⟨t, h5, h6, _⟩ := ih
      refine ⟨(⟨#[9]⟩ : ByteArray) ++ t, by simp [h5]; have : (⟨#[9]⟩ : ByteArray).size = 1 := rfl; omega, ?_, rfl⟩
      rw [bl_append, h6, List.replicate_succ]; rfl
  have s1 : (⟨#[32, 35]⟩ : ByteArray).size = 2 := rfl
  have s9 : (⟨#[9]⟩ : ByteArray).size = 1 := rfl
  -- the loop that compares
  have cmp : ∀ (l : List S34) (hl : l.length ≤ 1000) (j k i : Nat), i + j = l.length → j < k → noonmarklaw07_LexerWhite.l1 k N l (l.map (shF N)) i = some true := by
    intro l hl j
    induction j with
    | zero =>
      intro k i hi hk
      obtain ⟨k, rfl⟩ : ∃ m, k = m + 1 := ⟨k - 1, by omega⟩
      simp only [noonmarklaw07_LexerWhite.l1]
      rw [if_neg (by omega), alive_f]; rfl
    | succ j ih =>
      intro k i hi hk
      obtain ⟨k, rfl⟩ : ∃ m, k = m + 1 := ⟨k - 1, by omega⟩
      simp only [noonmarklaw07_LexerWhite.l1]
      have e1 : wrap64 ((i : Int) + 1) = ((i + 1 : Nat) : Int) := by rw [w64 (by omega) (by omega)]; omega
      have e2 : (l.map (shF N))[i]'(by simp; omega) = shF N (l[i]'(by omega)) := by simp
      rw [if_pos (by omega), if_pos (by omega), if_pos (by simp; omega), rd34 l i (by omega), rd34 (l.map (shF N)) i (by simp; omega), e2]
      have e3 : (shF N (l[i]'(by omega))).f1 - (l[i]'(by omega)).f1 = N := by unfold shF; simp only; omega
      have e4 : wrap64 (N : Int) = N := w64 (by omega) (by omega)
      have e5 : (l[i]'(by omega)).f0.toList = (shF N (l[i]'(by omega))).f0.toList := rfl
      rw [if_pos e5, e3, e4, if_pos rfl, e1]
      exact ih k (i + 1) (by omega) (by omega)
  simp only [noonmarklaw07_LexerWhite.j0, Bool.false_eq_true, if_false]
  have hb2 : ¬ (b.size : Int) > 200 := by omega
  rw [fields_eq, if_neg hb2]
  -- what stands behind the loop of tabs
  have last : ∀ (l : List S34) (kd : Int), ((kd = 0 → (fin b).q < 0 ∧ l = (fin b).close.out)) → ∀ (j k i : Nat) (t : ByteArray), i + j = N → 500 + j < k → t.size = i + b.size → bl t = List.replicate i 9 ++ bl b →
      noonmarklaw07_LexerWhite.l0 k x N l kd t i = some true := by
    intro l kd hkd j
    induction j with
    | zero =>
      intro k i t hi hk ht hbl
      obtain ⟨k, rfl⟩ : ∃ m, k = m + 1 := ⟨k - 1, by omega⟩
      obtain ⟨k, rfl⟩ : ∃ m, k = m + 1 := ⟨k - 1, by omega⟩
      simp only [noonmarklaw07_LexerWhite.l0]
      have hsz : (t ++ (⟨#[32, 35]⟩ : ByteArray)).size = t.size + 2 := by rw [ByteArray.size_append, s1]
      have hsz2 : (t ++ (⟨#[32, 35]⟩ : ByteArray) ++ x).size = t.size + 2 + x.size := by rw [ByteArray.size_append, hsz]
      rw [if_neg (by omega), if_pos (by omega), if_pos (by omega), fields_eq, if_neg (by omega)]
      by_cases hk0 : kd = 0
      · obtain ⟨hq, rfl⟩ := hkd hk0
        have hbl2 : bl (t ++ (⟨#[32, 35]⟩ : ByteArray) ++ x) = List.replicate i 9 ++ (bl b ++ (32 :: 35 :: bl x)) := by
          rw [bl_append, bl_append, hbl]; simp [bl]
        have w := white_fin b x i hq _ hbl2
        rw [if_neg (by omega), Option.bind_some]
        have hi0 : i = N := by omega
        subst hi0
        rw [if_pos hk0, if_pos rfl, w.2]
        simp only [noonmarklaw07_LexerWhite.j2]
        have hl := fin_len b
        have hne : (((fin b).close.out.length : Int) != (((fin b).close.out.map (shF i)).length : Int)) = false := by simp
        rw [hne]
        exact cmp (fin b).close.out (by omega) (fin b).close.out.length k 0 (by omega) (by omega)
      · split <;> simp [hk0, alive_f]
    | succ j ih =>
      intro k i t hi hk ht hbl
      obtain ⟨k, rfl⟩ : ∃ m, k = m + 1 := ⟨k - 1, by omega⟩
      simp only [noonmarklaw07_LexerWhite.l0]
      have e1 : wrap64 ((i : Int) + 1) = ((i + 1 : Nat) : Int) := by rw [w64 (by omega) (by omega)]; omega
      rw [if_pos (by omega), if_pos (by omega), e1]
      refine ih k (i + 1) _ (by omega) (by omega) (by rw [ByteArray.size_append, s9]; omega) ?_
      rw [bl_append, hbl, List.replicate_succ]; rfl
  by_cases hq : 0 ≤ (fin b).q
  · rw [if_pos hq, Option.bind_some]
    exact last [] 9 (fun h => absurd h (by decide)) N 999 0 b (by omega) (by omega) (by omega) (by simp)
  · rw [if_neg hq, Option.bind_some]
    exact last _ 0 (fun _ => ⟨by omega, rfl⟩) N 999 0 b (by omega) (by omega) (by omega) (by simp)

end Go.Proofs.Ytbhbjlohmalicaa.Pure
