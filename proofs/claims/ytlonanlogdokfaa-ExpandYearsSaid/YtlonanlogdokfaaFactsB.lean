/- What the printed functions of the civil chapter, of the reference, answer, in the words of the plain calendar (Cal). -/
import Derived.Test.YtlonanlogdokfaaS8
import Derived.Test.YtlonanlogdokfaaS9
import Derived.Test.YtlonanlogdokfaaFactsA
namespace Go.Proofs.Ytlonanlogdokfaa.Facts
open Go.RowKit Go.Proofs.Ytlonanlogdokfaa.S Go.Proofs.Ytlonanlogdokfaa.Cal

theorem rleap_f (y : Int) : noonmarkref04_Leap.f y = some (lp y) := by
  unfold noonmarkref04_Leap.f
  simp only [tm0]
  have e : ∀ x : Int, (Int.tmod x 400 == 0) = decide (x % 400 = 0) := by
    intro x; rw [Bool.eq_iff_iff]; simp [tm0]
  rw [e]
  unfold lp
  by_cases g : y % 4 = 0
  · rw [if_pos g]
    by_cases k : y % 100 = 0
    · rw [if_pos k]; simp [g, k]
    · rw [if_neg k]; simp [g, k]
  · rw [if_neg g]; simp [g]; omega
theorem rlong_f (k : Nat) (y m : Int) : noonmarkref04_Long.f (k + 1) y m = some (dim y m) := by
  unfold noonmarkref04_Long.f
  simp only [noonmarkref04_Long.j0, rleap_f, Option.bind_some]
  by_cases hm : 1 ≤ m ∧ m ≤ 12
  · have : m = 1 ∨ m = 2 ∨ m = 3 ∨ m = 4 ∨ m = 5 ∨ m = 6 ∨ m = 7 ∨ m = 8 ∨ m = 9 ∨ m = 10 ∨ m = 11 ∨ m = 12 := by omega
    rcases this with rfl | rfl | rfl | rfl | rfl | rfl | rfl | rfl | rfl | rfl | rfl | rfl <;> (simp [dim, li]; try (cases lp y <;> simp))
  · rw [dim_no y m hm]
    have e : ∀ x : Int, m ≠ x → (m == x) = false := fun x h => beq_eq_false_iff_ne.mpr h
    rw [if_neg (by omega), if_neg (by omega), if_neg (by omega), e 11 (by omega), if_neg (by simp), if_neg (by omega), if_neg (by omega), if_neg (by omega), if_neg (by omega), if_neg (by omega), if_neg (by omega), if_neg (by omega), if_neg (by omega)]
theorem rright_f (k : Nat) (y m d : Int) : noonmarkref04_Right.f (k + 1) y m d = some (vld y m d) := by
  unfold noonmarkref04_Right.f
  rw [rlong_f, Option.bind_some]
  by_cases h1 : y ≥ -9999
  · rw [if_pos h1]
    by_cases h2 : y ≤ 9999
    · rw [if_pos h2]
      by_cases m1 : m ≥ 1
      · rw [if_pos m1]
        by_cases m2 : m ≤ 12
        · rw [if_pos m2]
          by_cases h3 : d ≥ 1
          · rw [if_pos h3]
            by_cases h4 : d ≤ dim y m
            · rw [decide_eq_true h4, (vld_iff y m d).mpr ⟨h1, h2, m1, m2, h3, h4⟩]
            · rw [decide_eq_false h4, vld_no (by omega)]
          · rw [if_neg h3, vld_no (by omega)]
        · rw [if_neg m2, vld_no (by omega)]
      · rw [if_neg m1, vld_no (by omega)]
    · rw [if_neg h2, vld_no (by omega)]
  · rw [if_neg h1, vld_no (by omega)]
theorem year_l2 (y : Int) (hy1 : -9999 ≤ y) (hy2 : y ≤ 10000) (d : Nat) : ∀ (k : Nat) (a : Int), -10800 ≤ a → a ≤ y → y - a = d → d < k → noonmarkref04_year.l2 k y (jan a) a = some (jan y) := by
  induction d with
  | zero =>
    intro k a h0 h1 hd hk
    obtain ⟨k, rfl⟩ : ∃ m, k = m + 1 := ⟨k - 1, by omega⟩
    obtain rfl : a = y := by omega
    simp only [noonmarkref04_year.l2]; rw [if_neg (by omega)]
  | succ d ih =>
    intro k a h0 h1 hd hk
    obtain ⟨k, rfl⟩ : ∃ m, k = m + 1 := ⟨k - 1, by omega⟩
    have hb : -4800000 ≤ jan a ∧ jan a ≤ 4800000 := by unfold jan; omega
    have hs := jan_succ a
    simp only [noonmarkref04_year.l2]; rw [if_pos (by omega), rleap_f, Option.bind_some]
    have e1 : wrap64 (jan a + 365) = jan a + 365 := w64 (by omega) (by omega)
    have e2 : wrap64 (jan a + 365 + 1) = jan a + 365 + 1 := w64 (by omega) (by omega)
    have e3 : wrap64 (a + 1) = a + 1 := w64 (by omega) (by omega)
    rw [e1, e2, e3]
    have := ih k (a + 1) (by omega) (by omega) (by omega) (by omega)
    unfold li at hs
    by_cases h : lp a = true
    · rw [if_pos h] at *; rw [← hs]; exact this
    · rw [if_neg h] at *; rw [← this, hs]; simp
theorem year_l1 (y : Int) (hy1 : -9999 ≤ y) (hy2 : y ≤ 10000) (d : Nat) : ∀ (k : Nat) (a : Int), a ≤ 10800 → y < a + 400 → a - y ≤ 400 * d → d + 400 < k → noonmarkref04_year.l1 k y (jan a) a = some (jan y) := by
  induction d with
  | zero =>
    intro k a h0 h1 hd hk
    obtain ⟨k, rfl⟩ : ∃ m, k = m + 1 := ⟨k - 1, by omega⟩
    simp only [noonmarkref04_year.l1]; rw [if_neg (by omega)]
    exact year_l2 y hy1 hy2 (y - a).toNat k a (by omega) (by omega) (by omega) (by omega)
  | succ d ih =>
    intro k a h0 h1 hd hk
    obtain ⟨k, rfl⟩ : ∃ m, k = m + 1 := ⟨k - 1, by omega⟩
    simp only [noonmarkref04_year.l1]
    by_cases h : a > y
    · rw [if_pos h]
      have hb : -4800000 ≤ jan a ∧ jan a ≤ 4800000 := by unfold jan; omega
      have e0 := jan_400 (a - 400)
      have e1 : wrap64 (jan a - 146097) = jan a - 146097 := w64 (by omega) (by omega)
      have e2 : wrap64 (a - 400) = a - 400 := w64 (by omega) (by omega)
      rw [Int.sub_add_cancel] at e0
      rw [e1, e2, e0, Int.add_sub_cancel]
      exact ih k (a - 400) (by omega) (by omega) (by omega) (by omega)
    · rw [if_neg h]
      exact year_l2 y hy1 hy2 (y - a).toNat k a (by omega) (by omega) (by omega) (by omega)
theorem year_l0 (y : Int) (hy1 : -9999 ≤ y) (hy2 : y ≤ 10000) (d : Nat) : ∀ (k : Nat) (a : Int), 1970 ≤ a → a ≤ 10000 → y - a < 400 * (d + 1) → d + 460 < k → noonmarkref04_year.l0 k y (jan a) a = some (jan y) := by
  induction d with
  | zero =>
    intro k a h0 h1 hd hk
    obtain ⟨k, rfl⟩ : ∃ m, k = m + 1 := ⟨k - 1, by omega⟩
    have e2 : wrap64 (a + 400) = a + 400 := w64 (by omega) (by omega)
    simp only [noonmarkref04_year.l0]; rw [e2, if_neg (by omega)]
    exact year_l1 y hy1 hy2 50 k a (by omega) (by omega) (by omega) (by omega)
  | succ d ih =>
    intro k a h0 h1 hd hk
    obtain ⟨k, rfl⟩ : ∃ m, k = m + 1 := ⟨k - 1, by omega⟩
    have e2 : wrap64 (a + 400) = a + 400 := w64 (by omega) (by omega)
    simp only [noonmarkref04_year.l0]
    rw [e2]
    by_cases h : a + 400 ≤ y
    · rw [if_pos h]
      have hb : -4800000 ≤ jan a ∧ jan a ≤ 4800000 := by unfold jan; omega
      have e1 : wrap64 (jan a + 146097) = jan a + 146097 := w64 (by omega) (by omega)
      rw [e1, ← jan_400]
      exact ih k (a + 400) (by omega) (by omega) (by omega) (by omega)
    · rw [if_neg h]
      exact year_l1 y hy1 hy2 50 k a (by omega) (by omega) (by omega) (by omega)
theorem year_f (y : Int) (hy1 : -9999 ≤ y) (hy2 : y ≤ 10000) (k : Nat) (hk : 500 < k) : noonmarkref04_year.f k y = some (jan y) := by
  unfold noonmarkref04_year.f
  rw [← jan_1970]
  exact year_l0 y hy1 hy2 21 k 1970 (by omega) (by omega) (by omega) (by omega)
theorem rdays_l0 (y m d : Int) (hv : vld y m d = true) (j : Nat) : ∀ (k : Nat) (i : Int), 1 ≤ i → i ≤ m → m - i = j → j + 2 < k → noonmarkref04_Days.l0 k y m d (jan y + cum y i) i = some (num y m d, 0) := by
  have g := (vld_iff y m d).mp hv
  have hj := jan_bd y (by omega) (by omega)
  have hdm := dim_bd y m g.2.2.1 g.2.2.2.1
  have hli := li_01 y
  induction j with
  | zero =>
    intro k i h0 h1 hd hk
    obtain ⟨k, rfl⟩ : ∃ m, k = m + 1 := ⟨k - 1, by omega⟩
    obtain rfl : i = m := by omega
    have hc := cum_mono y i h0 (by omega)
    simp only [noonmarkref04_Days.l0]; rw [if_neg (by omega)]
    have e1 : wrap64 (jan y + cum y i + d) = jan y + cum y i + d := w64 (by omega) (by omega)
    have e2 : wrap64 (jan y + cum y i + d - 1) = jan y + cum y i + d - 1 := w64 (by omega) (by omega)
    rw [e1, e2]; rfl
  | succ j ih =>
    intro k i h0 h1 hd hk
    obtain ⟨k, rfl⟩ : ∃ m, k = m + 1 := ⟨k - 1, by omega⟩
    have hc := cum_mono y i h0 (by omega)
    have hdi := dim_bd y i h0 (by omega)
    simp only [noonmarkref04_Days.l0]; rw [if_pos (by omega)]
    obtain ⟨k, rfl⟩ : ∃ m, k = m + 1 := ⟨k - 1, by omega⟩
    rw [rlong_f, Option.bind_some]
    have e1 : wrap64 (jan y + cum y i + dim y i) = jan y + cum y (i + 1) := by rw [cum_succ y i h0 (by omega), ← Int.add_assoc]; exact w64 (by omega) (by omega)
    have e2 : wrap64 (i + 1) = i + 1 := w64 (by omega) (by omega)
    rw [e1, e2]
    exact ih (k + 1) (i + 1) (by omega) (by omega) (by omega) (by omega)
theorem rdays_f (y m d : Int) (k : Nat) (hk : 500 < k) : noonmarkref04_Days.f k y m d = some (if vld y m d = true then (num y m d, 0) else (0, 6)) := by
  unfold noonmarkref04_Days.f
  obtain ⟨k, rfl⟩ : ∃ m, k = m + 1 := ⟨k - 1, by omega⟩
  rw [rright_f, Option.bind_some]
  by_cases h : vld y m d = true
  · rw [if_pos h, if_pos h]
    have g := (vld_iff y m d).mp h
    rw [year_f y (by omega) (by omega) _ hk, Option.bind_some]
    have := rdays_l0 y m d h (m - 1).toNat (k + 1) 1 (by omega) (by omega) (by omega) (by omega)
    rw [cum_one, Int.add_zero] at this
    exact this
  · rw [if_neg h, if_neg h]
theorem tm_pos {a k : Int} (h : 0 ≤ a) : Int.tmod a k = a % k := Int.tmod_eq_emod_of_nonneg h
theorem rweek_f (n : Int) : noonmarkref04_Week.f n = some ((n + 4) % 7) := by
  unfold noonmarkref04_Week.f
  have e : Int.tmod n 7 = if 0 ≤ n then n % 7 else - (-n % 7) := by
    split
    · exact Int.tmod_eq_emod_of_nonneg (by omega)
    · have := Int.neg_tmod (-n) 7
      rw [Int.neg_neg] at this; rw [this, Int.tmod_eq_emod_of_nonneg (by omega)]
  generalize ht : Int.tmod n 7 = t at *
  have bt : -6 ≤ t ∧ t ≤ 6 := by split at e <;> omega
  have a1 : wrap64 (t + 11) = t + 11 := w64 (by omega) (by omega)
  rw [a1, tm_pos (by omega)]
  congr 1; split at e <;> omega
end Go.Proofs.Ytlonanlogdokfaa.Facts
