/- What the two printed functions from a number to a date answer, and the clocks: both are the plain calendar's (Cal). -/
import Derived.Test.YtiiaaomfjomccaaFacts
namespace Go.Proofs.Ytiiaaomfjomccaa.Facts
open Go.RowKit Go.Proofs.Ytiiaaomfjomccaa.S Go.Proofs.Ytiiaaomfjomccaa.Cal
set_option linter.unusedVariables false
set_option linter.unusedSimpArgs false

theorem wtd {a k : Int} (h0 : 0 ≤ a) (h1 : a ≤ 1000000000) (hk : 0 < k) : wrap64 (Int.tdiv a k) = a / k := by
  rw [Int.tdiv_eq_ediv_of_nonneg h0]
  have h2 : a / k ≤ a := Int.ediv_le_self k h0
  have h3 : 0 ≤ a / k := Int.ediv_nonneg h0 (by omega)
  exact w64 (by omega) (by omega)
set_option maxRecDepth 100000 in
theorem date_j0 (n : Int) (h1 : jan (-9999) ≤ n) (h2 : n < jan 10000) (k : Nat) : civil_Date.j0 (k + 1) n false = some (dY n, dM n, dD n, 0) := by
  rw [jan_first] at h1; rw [jan_last] at h2
  have hD := zD_bd n
  have hY := zY_bd n
  have hO := zO_bd n
  have hE : 4 ≤ zE n ∧ zE n ≤ 55 := by unfold zE; omega
  have hM : 0 ≤ zM n ∧ zM n ≤ 11 := by unfold zM; omega
  have hF := fe_bd hD.1 hD.2
  have e1 : wrap64 (n + 5102378) = n + 5102378 := w64 (by omega) (by omega)
  have e2 : wrap64 (Int.tdiv (n + 5102378) 146097) = zE n := wtd (by omega) (by omega) (by omega)
  have e3 : wrap64 (zE n * 146097) = zE n * 146097 := w64 (by omega) (by omega)
  have e4 : wrap64 (n + 5102378 - zE n * 146097) = zD n := w64 (by unfold zD at hD; omega) (by unfold zD at hD; omega)
  have e5 : wrap64 (Int.tdiv (zD n) 1460) = zD n / 1460 := wtd (by omega) (by omega) (by omega)
  have e6 : wrap64 (Int.tdiv (zD n) 36524) = zD n / 36524 := wtd (by omega) (by omega) (by omega)
  have e7 : wrap64 (Int.tdiv (zD n) 146096) = zD n / 146096 := wtd (by omega) (by omega) (by omega)
  have e8 : wrap64 (zD n - zD n / 1460) = zD n - zD n / 1460 := w64 (by omega) (by omega)
  have e9 : wrap64 (zD n - zD n / 1460 + zD n / 36524) = zD n - zD n / 1460 + zD n / 36524 := w64 (by omega) (by omega)
  have e10 : wrap64 (zD n - zD n / 1460 + zD n / 36524 - zD n / 146096) = fe (zD n) := w64 (by omega) (by omega)
  have e11 : wrap64 (Int.tdiv (fe (zD n)) 365) = zY n := wtd (by omega) (by omega) (by omega)
  have e11b : Int.tdiv (fe (zD n)) 365 = zY n := Int.tdiv_eq_ediv_of_nonneg (by omega)
  have e11c : wrap64 (zY n) = zY n := w64 (by omega) (by omega)
  have e12 : wrap64 (365 * zY n) = 365 * zY n := w64 (by omega) (by omega)
  have e13 : wrap64 (Int.tdiv (zY n) 4) = zY n / 4 := wtd (by omega) (by omega) (by omega)
  have e14 : wrap64 (Int.tdiv (zY n) 100) = zY n / 100 := wtd (by omega) (by omega) (by omega)
  have e15 : wrap64 (365 * zY n + zY n / 4) = 365 * zY n + zY n / 4 := w64 (by omega) (by omega)
  have e16 : wrap64 (365 * zY n + zY n / 4 - zY n / 100) = 365 * zY n + zY n / 4 - zY n / 100 := w64 (by omega) (by omega)
  have e17 : wrap64 (zD n - (365 * zY n + zY n / 4 - zY n / 100)) = zO n := w64 (by omega) (by omega)
  have e18 : wrap64 (5 * zO n) = 5 * zO n := w64 (by omega) (by omega)
  have e19 : wrap64 (5 * zO n + 2) = 5 * zO n + 2 := w64 (by omega) (by omega)
  have e20 : wrap64 (Int.tdiv (5 * zO n + 2) 153) = zM n := wtd (by omega) (by omega) (by omega)
  have e21 : wrap64 (153 * zM n) = 153 * zM n := w64 (by omega) (by omega)
  have e22 : wrap64 (153 * zM n + 2) = 153 * zM n + 2 := w64 (by omega) (by omega)
  have e23 : wrap64 (Int.tdiv (153 * zM n + 2) 5) = (153 * zM n + 2) / 5 := wtd (by omega) (by omega) (by omega)
  have e24 : wrap64 (zO n - (153 * zM n + 2) / 5) = zO n - (153 * zM n + 2) / 5 := w64 (by omega) (by omega)
  have e25 : wrap64 (zO n - (153 * zM n + 2) / 5 + 1) = dD n := w64 (by omega) (by omega)
  have e26 : wrap64 (zE n * 400) = zE n * 400 := w64 (by omega) (by omega)
  have e27 : wrap64 (zY n + zE n * 400) = zY n + zE n * 400 := w64 (by omega) (by omega)
  have e28 : wrap64 (zY n + zE n * 400 - 12000) = zY n + zE n * 400 - 12000 := w64 (by omega) (by omega)
  have e29 : wrap64 (zY n + zE n * 400 - 12000 + 1) = zY n + zE n * 400 - 12000 + 1 := w64 (by omega) (by omega)
  have e30 : wrap64 (zM n + 3) = zM n + 3 := w64 (by omega) (by omega)
  have e31 : wrap64 (zM n + 3 - 12) = zM n + 3 - 12 := w64 (by omega) (by omega)
  simp only [civil_Date.j0, e1, e2, e3, e4, e5, e6, e7, e8, e9, e10, e11, e11b, e11c, e12, e13, e14, e15, e16, e17, e18, e19, e20, e21, e22, e23, e24, e25, e26, e27, e28, e29, e30, e31, Bool.false_eq_true, if_false]
  unfold dY dM
  by_cases h : zM n + 3 > 12
  · rw [if_pos h, if_pos h, if_pos h]
  · rw [if_neg h, if_neg h, if_neg h]
def isDay (n : Int) : Bool := decide (jan (-9999) ≤ n) && decide (n < jan 10000)
theorem isDay_iff (n : Int) : isDay n = true ↔ (jan (-9999) ≤ n ∧ n < jan 10000) := by unfold isDay; simp
theorem isDay_no {n : Int} (h : ¬ (jan (-9999) ≤ n ∧ n < jan 10000)) : isDay n = false := by
  rcases hv : isDay n with _ | _
  · rfl
  · exact absurd ((isDay_iff n).mp hv) h
theorem date_f (n : Int) (k : Nat) : civil_Date.f (k + 1) n = some (if isDay n = true then (dY n, dM n, dD n, 0) else (0, 0, 0, 2)) := by
  unfold civil_Date.f
  have e1 : num (-9999) 1 1 = jan (-9999) := by decide
  have e2 : num 9999 12 31 = jan 10000 - 1 := by decide
  rw [number_f (-9999) 1 1 (by omega) (by omega) (by omega) (by omega) (by omega) (by omega), Option.bind_some, number_f 9999 12 31 (by omega) (by omega) (by omega) (by omega) (by omega) (by omega), Option.bind_some, e1, e2]
  by_cases h1 : n < jan (-9999)
  · rw [if_pos h1, isDay_no (by omega)]; simp [civil_Date.j0]
  · rw [if_neg h1]
    by_cases h2 : n > jan 10000 - 1
    · rw [decide_eq_true h2, isDay_no (by omega)]; simp [civil_Date.j0]
    · rw [decide_eq_false h2, date_j0 n (by omega) (by omega), if_pos ((isDay_iff n).mpr ⟨by omega, by omega⟩)]
/-! the reference's date -/
theorem rdate_l1 (n y m0 d0 : Int) (hb : jan (-9999) ≤ n ∧ n < jan 10000) (hy : -9999 ≤ y ∧ y ≤ 9999) (hm : 1 ≤ m0 ∧ m0 ≤ 12) (hd : 1 ≤ d0 ∧ d0 ≤ dim y m0) (hn : num y m0 d0 = n) (j : Nat) :
    ∀ (k : Nat) (m : Int), 1 ≤ m → m ≤ m0 → m0 - m = j → j + 2 < k → noonmarkref04_Date.l1 k (n - jan y - cum y m) y m = some (y, m0, d0, 0) := by
  have hj := jan_bd y (by omega) (by omega)
  have hli := li_01 y
  have hdm := dim_bd y m0 (by omega) (by omega)
  induction j with
  | zero =>
    intro k m h0 h1 hdj hk
    obtain ⟨k, rfl⟩ : ∃ m, k = m + 1 := ⟨k - 1, by omega⟩
    obtain rfl : m = m0 := by omega
    obtain ⟨k, rfl⟩ : ∃ m, k = m + 1 := ⟨k - 1, by omega⟩
    simp only [noonmarkref04_Date.l1]
    have e : n - jan y - cum y m = d0 - 1 := by unfold num at hn; omega
    rw [rlong_f, Option.bind_some, e, if_neg (by omega)]
    have e1 : wrap64 (d0 - 1 + 1) = d0 := by rw [Int.sub_add_cancel]; exact w64 (by omega) (by omega)
    rw [e1]
  | succ j ih =>
    intro k m h0 h1 hdj hk
    obtain ⟨k, rfl⟩ : ∃ m, k = m + 1 := ⟨k - 1, by omega⟩
    obtain ⟨k, rfl⟩ : ∃ m, k = m + 1 := ⟨k - 1, by omega⟩
    have hc := cum_mono y m h0 (by omega)
    have hc0 := cum_mono y m0 (by omega) (by omega)
    have hlt := cum_lt y m m0 h0 (by omega) (by omega)
    have hcs := cum_succ y m h0 (by omega)
    have hdm2 := dim_bd y m (by omega) (by omega)
    simp only [noonmarkref04_Date.l1]
    have e : n - jan y - cum y m - dim y m = n - jan y - cum y (m + 1) := by omega
    have hN : 0 ≤ n - jan y ∧ n - jan y ≤ 400 := by unfold num at hn; omega
    have hge : n - jan y - cum y m ≥ dim y m := by unfold num at hn; omega
    rw [rlong_f, Option.bind_some, Option.bind_some, if_pos hge, e]
    have e1 : wrap64 (n - jan y - cum y (m + 1)) = n - jan y - cum y (m + 1) := w64 (by omega) (by omega)
    have e2 : wrap64 (m + 1) = m + 1 := w64 (by omega) (by omega)
    rw [e1, e2]
    exact ih (k + 1) (m + 1) (by omega) (by omega) (by omega) (by omega)
theorem rdate_l0 (n y m0 d0 : Int) (hb : jan (-9999) ≤ n ∧ n < jan 10000) (hy : -9999 ≤ y ∧ y ≤ 9999) (hm : 1 ≤ m0 ∧ m0 ≤ 12) (hd : 1 ≤ d0 ∧ d0 ≤ dim y m0) (hn : num y m0 d0 = n) (j : Nat) :
    ∀ (k : Nat) (a : Int), -9999 ≤ a → a ≤ y → y - a = j → j + 600 < k → noonmarkref04_Date.l0 k n a = some (y, m0, d0, 0) := by
  have hj := jan_bd y (by omega) (by omega)
  have hlt := num_lt hm.1 hm.2 hd.1 hd.2
  have hli := li_01 y
  rw [jan_succ] at hlt
  rw [jan_first, jan_last] at hb
  induction j with
  | zero =>
    intro k a h0 h1 hdj hk
    obtain ⟨k, rfl⟩ : ∃ m, k = m + 1 := ⟨k - 1, by omega⟩
    obtain rfl : a = y := by omega
    simp only [noonmarkref04_Date.l0]
    have e1 : wrap64 (a + 1) = a + 1 := w64 (by omega) (by omega)
    have e2 : wrap64 (n - jan a) = n - jan a := w64 (by omega) (by omega)
    rw [e1, year_f (a + 1) (by omega) (by omega) k (by omega), year_f a (by omega) (by omega) k (by omega), Option.bind_some, Option.bind_some, jan_succ, if_neg (by omega), e2]
    have := rdate_l1 n a m0 d0 (by rw [jan_first, jan_last]; exact hb) hy hm hd hn (m0 - 1).toNat k 1 (by omega) (by omega) (by omega) (by omega)
    rw [cum_one, Int.sub_zero] at this
    exact this
  | succ j ih =>
    intro k a h0 h1 hdj hk
    obtain ⟨k, rfl⟩ : ∃ m, k = m + 1 := ⟨k - 1, by omega⟩
    simp only [noonmarkref04_Date.l0]
    have e1 : wrap64 (a + 1) = a + 1 := w64 (by omega) (by omega)
    have hle := jan_le (a := a + 1) (b := y) (by omega)
    rw [e1, year_f (a + 1) (by omega) (by omega) k (by omega), Option.bind_some, if_pos (by omega)]
    exact ih k (a + 1) (by omega) (by omega) (by omega) (by omega)
theorem guess (n y : Int) (h : -9999 ≤ y) (hn : jan y ≤ n) (h2 : n < jan (y + 1)) : -9999 + (n - jan (-9999)) / 366 ≤ y := by
  rw [jan_first]; rw [jan_succ] at h2
  have := li_01 y
  have hb : jan y ≤ jan (-9999) + 366 * (y + 9999) := by
    have key : ∀ j : Nat, jan (-9999 + j) ≤ jan (-9999) + 366 * j := by
      intro j
      induction j with
      | zero => simp
      | succ j ih =>
        have e : (-9999 : Int) + ((j + 1 : Nat) : Int) = -9999 + j + 1 := by omega
        rw [e, jan_succ]
        have := li_01 (-9999 + j)
        omega
    have := key (y + 9999).toNat
    have e : (-9999 : Int) + ((y + 9999).toNat : Int) = y := by omega
    rw [e] at this; omega
  rw [jan_first] at hb
  omega
theorem rdate_f (n : Int) (k : Nat) (hk : 21000 < k) : noonmarkref04_Date.f k n = some (if isDay n = true then (dY n, dM n, dD n, 0) else (0, 0, 0, 2)) := by
  unfold noonmarkref04_Date.f
  rw [year_f (-9999) (by omega) (by omega) k (by omega), year_f 10000 (by omega) (by omega) k (by omega), Option.bind_some, Option.bind_some]
  obtain ⟨k, rfl⟩ : ∃ m, k = m + 1 := ⟨k - 1, by omega⟩
  by_cases h1 : n < jan (-9999)
  · rw [if_pos h1, isDay_no (by omega)]; simp [noonmarkref04_Date.j0]
  · rw [if_neg h1]
    by_cases h2 : n ≥ jan 10000
    · rw [decide_eq_true h2, isDay_no (by omega)]; simp [noonmarkref04_Date.j0]
    · rw [decide_eq_false h2, if_pos ((isDay_iff n).mpr ⟨by omega, by omega⟩)]
      obtain ⟨a, b, c, d, e⟩ := date_num n
      have hy := date_year n (by omega) (by omega)
      have hlt := num_lt a b c d
      rw [e] at hlt
      have hg := guess n (dY n) hy.1 hlt.1 hlt.2
      simp only [noonmarkref04_Date.j0, Bool.false_eq_true, if_false]
      rw [year_f (-9999) (by omega) (by omega) k (by omega), Option.bind_some]
      have hl := jan_last
      have hf := jan_first
      have e1 : wrap64 (n - jan (-9999)) = n - jan (-9999) := w64 (by omega) (by omega)
      have e2 : wrap64 (Int.tdiv (n - jan (-9999)) 366) = (n - jan (-9999)) / 366 := wtd (by omega) (by omega) (by omega)
      have e3 : wrap64 (-9999 + (n - jan (-9999)) / 366) = -9999 + (n - jan (-9999)) / 366 := w64 (by omega) (by omega)
      rw [e1, e2, e3]
      exact rdate_l0 n (dY n) (dM n) (dD n) ⟨by omega, by omega⟩ hy ⟨a, b⟩ ⟨c, d⟩ e (dY n - (-9999 + (n - jan (-9999)) / 366)).toNat k _ (by omega) (by omega) (by omega) (by omega)
/-! the clocks -/
theorem tm_pos {a k : Int} (h : 0 ≤ a) : Int.tmod a k = a % k := Int.tmod_eq_emod_of_nonneg h
theorem rweek_f (n : Int) : noonmarkref04_Week.f n = some ((n + 4) % 7) := by
  unfold noonmarkref04_Week.f
  have e : Int.tmod n 7 = if 0 ≤ n then n % 7 else - (-n % 7) := by
    split
    · exact Int.tmod_eq_emod_of_nonneg (by omega)
    · have := Int.neg_tmod (-n) 7
      rw [Int.neg_neg] at this; rw [this, Int.tmod_eq_emod_of_nonneg (by omega)]
  generalize ht : Int.tmod n 7 = t at *
  have bt : -6 ≤ t ∧ t ≤ 6 := by split at e <;> omega
  have a1 : wrap64 (t + 11) = t + 11 := w64 (by omega) (by omega)
  rw [a1, tm_pos (by omega)]
  congr 1; split at e <;> omega
theorem clock_eq (t : Int) (h1 : -9223372036854775808 ≤ t) (h2 : t ≤ 9223372036854775807) :
    ∃ r, civil_Clock.f t = some r ∧ noonmarkref04_Clock.f t = some r := by
  unfold civil_Clock.f noonmarkref04_Clock.f
  have e : Int.tmod t 86400 = if 0 ≤ t then t % 86400 else - (-t % 86400) := by
    split
    · exact Int.tmod_eq_emod_of_nonneg (by omega)
    · have := Int.neg_tmod (-t) 86400
      rw [Int.neg_neg] at this; rw [this, Int.tmod_eq_emod_of_nonneg (by omega)]
  have f : Int.tdiv t 86400 = if 0 ≤ t then t / 86400 else - (-t / 86400) := by
    split
    · exact Int.tdiv_eq_ediv_of_nonneg (by omega)
    · have := Int.neg_tdiv (-t) 86400
      rw [Int.neg_neg] at this; rw [this, Int.tdiv_eq_ediv_of_nonneg (by omega)]
  generalize Int.tmod t 86400 = r at *
  generalize Int.tdiv t 86400 = q at *
  have bq : -106751991167301 ≤ q ∧ q ≤ 106751991167301 := by split at f <;> omega
  have br : -86399 ≤ r ∧ r ≤ 86399 := by split at e <;> omega
  have a1 : wrap64 q = q := w64 (by omega) (by omega)
  have a2 : wrap64 (q - 1) = q - 1 := w64 (by omega) (by omega)
  rw [a1, a2]
  by_cases h : r < 0
  · refine ⟨(q - 1, wrap64 (t - wrap64 ((q - 1) * 86400))), by rw [if_pos h], ?_⟩
    rw [if_pos h]
    have : wrap64 (r + 86400) = wrap64 (t - wrap64 ((q - 1) * 86400)) := by
      unfold wrap64; split at e <;> split at f <;> omega
    rw [this]
  · refine ⟨(q, wrap64 (t - wrap64 (q * 86400))), by rw [if_neg h], ?_⟩
    rw [if_neg h]
    have : r = wrap64 (t - wrap64 (q * 86400)) := by
      unfold wrap64; split at e <;> split at f <;> omega
    rw [← this]
end Go.Proofs.Ytiiaaomfjomccaa.Facts
