/- What the printed functions of the civil chapter answer, in the words of the plain calendar (Cal). -/
import Derived.Test.YtiiaaomfjomccaaS
import Derived.Test.YtiiaaomfjomccaaCal
import Derived.OpenShut
namespace Go.Proofs.Ytiiaaomfjomccaa.Facts
open Go.RowKit Go.Proofs.Ytiiaaomfjomccaa.S Go.Proofs.Ytiiaaomfjomccaa.Cal

theorem i64_and3 (n : Int) : bits .and .i64 n 3 = n % 4 := by
  have h3 : (BitVec.ofInt 64 3).toNat = 2 ^ 2 - 1 := by decide
  have key : (BitVec.ofInt 64 n &&& BitVec.ofInt 64 3).toNat = (n % ((2 ^ 64 : Nat) : Int)).toNat % 2 ^ 2 := by
    rw [BitVec.toNat_and, BitVec.toNat_ofInt, h3, Nat.and_two_pow_sub_one_eq_mod]
  show IntKind.i64.wrap ((BitVec.ofInt 64 n &&& BitVec.ofInt 64 3).toNat : Nat) = n % 4
  rw [key, IntKind.wrap_i64]
  omega
theorem i64_and15 (n : Int) : bits .and .i64 n 15 = n % 16 := by
  have h3 : (BitVec.ofInt 64 15).toNat = 2 ^ 4 - 1 := by decide
  have key : (BitVec.ofInt 64 n &&& BitVec.ofInt 64 15).toNat = (n % ((2 ^ 64 : Nat) : Int)).toNat % 2 ^ 4 := by
    rw [BitVec.toNat_and, BitVec.toNat_ofInt, h3, Nat.and_two_pow_sub_one_eq_mod]
  show IntKind.i64.wrap ((BitVec.ofInt 64 n &&& BitVec.ofInt 64 15).toNat : Nat) = n % 16
  rw [key, IntKind.wrap_i64]
  omega
theorem tm0 (a : Int) (k : Int) : Int.tmod a k = 0 ↔ a % k = 0 := by
  rw [← Int.dvd_iff_tmod_eq_zero, ← Int.dvd_iff_emod_eq_zero]
theorem w64 {n : Int} (h1 : -9223372036854775808 ≤ n) (h2 : n ≤ 9223372036854775807) : wrap64 n = n := IntWalk.wrap64_in n ⟨h1, h2⟩

theorem leap_f (y : Int) : civil_Leap.f y = some (lp y) := by
  unfold civil_Leap.f
  rw [i64_and3, i64_and15]
  simp only [tm0]
  by_cases h : lp y = true
  · rw [h]; rw [lp_iff] at h
    rw [if_pos h.1]
    by_cases g : y % 25 = 0
    · rw [if_pos g]; congr 1; rw [beq_iff_eq]; omega
    · rw [if_neg g]
  · have h' : lp y = false := by simpa using h
    rw [h']; rw [lp_iff] at h
    by_cases g : y % 4 = 0
    · rw [if_pos g, if_pos (by omega)]; congr 1; rw [beq_eq_false_iff_ne]; omega
    · rw [if_neg g]
theorem rleap_f (y : Int) : noonmarkref04_Leap.f y = some (lp y) := by
  unfold noonmarkref04_Leap.f
  simp only [tm0]
  have e : ∀ x : Int, (Int.tmod x 400 == 0) = decide (x % 400 = 0) := by
    intro x; rw [Bool.eq_iff_iff]; simp [tm0]
  rw [e]
  unfold lp
  by_cases g : y % 4 = 0
  · rw [if_pos g]
    by_cases k : y % 100 = 0
    · rw [if_pos k]; simp [g, k]
    · rw [if_neg k]; simp [g, k]
  · rw [if_neg g]; simp [g]; omega
theorem li_of {y : Int} {b : Bool} (h : lp y = b) : li y = if b = true then 1 else 0 := by unfold li; rw [h]
theorem long_f (y m : Int) : civil_Long.f y m = some (dim y m) := by
  unfold civil_Long.f
  by_cases h1 : m < 1
  · rw [if_pos h1, dim_no y m (by omega)]
  rw [if_neg h1]
  by_cases h2 : m > 12
  · rw [if_pos h2, dim_no y m (by omega)]
  rw [if_neg h2, leap_f, Option.bind_some]
  unfold dim
  by_cases h3 : m = 2
  · rw [if_pos h3, if_pos h3]
    unfold li
    cases lp y <;> simp
  rw [if_neg h3, if_neg h3]
  by_cases h4 : m = 4 ∨ m = 6 ∨ m = 9 ∨ m = 11
  · rw [if_pos h4, if_pos h4]
  · rw [if_neg h4, if_neg h4, if_pos (by omega)]
theorem rlong_f (k : Nat) (y m : Int) : noonmarkref04_Long.f (k + 1) y m = some (dim y m) := by
  unfold noonmarkref04_Long.f
  simp only [noonmarkref04_Long.j0, rleap_f, Option.bind_some]
  by_cases hm : 1 ≤ m ∧ m ≤ 12
  · have : m = 1 ∨ m = 2 ∨ m = 3 ∨ m = 4 ∨ m = 5 ∨ m = 6 ∨ m = 7 ∨ m = 8 ∨ m = 9 ∨ m = 10 ∨ m = 11 ∨ m = 12 := by omega
    rcases this with rfl | rfl | rfl | rfl | rfl | rfl | rfl | rfl | rfl | rfl | rfl | rfl <;> (simp [dim, li]; try (cases lp y <;> simp))
  · rw [dim_no y m hm]
    have e : ∀ x : Int, m ≠ x → (m == x) = false := fun x h => beq_eq_false_iff_ne.mpr h
    rw [if_neg (by omega), if_neg (by omega), if_neg (by omega), e 11 (by omega), if_neg (by simp), if_neg (by omega), if_neg (by omega), if_neg (by omega), if_neg (by omega), if_neg (by omega), if_neg (by omega), if_neg (by omega), if_neg (by omega)]
theorem vld_no {y m d : Int} (h : ¬ (-9999 ≤ y ∧ y ≤ 9999 ∧ 1 ≤ m ∧ m ≤ 12 ∧ 1 ≤ d ∧ d ≤ dim y m)) : vld y m d = false := by
  rcases hv : vld y m d with _ | _
  · rfl
  · exact absurd ((vld_iff y m d).mp hv) h
theorem dim_pos {y m : Int} (h : 0 < dim y m) : 1 ≤ m ∧ m ≤ 12 := by
  by_cases g : 1 ≤ m ∧ m ≤ 12
  · exact g
  · rw [dim_no y m g] at h; omega
theorem right_f (y m d : Int) : civil_Right.f y m d = some (vld y m d) := by
  unfold civil_Right.f
  rw [long_f, Option.bind_some]
  by_cases h1 : y ≥ -9999
  · rw [if_pos h1]
    by_cases h2 : y ≤ 9999
    · rw [if_pos h2]
      by_cases h3 : d ≥ 1
      · rw [if_pos h3]
        by_cases h4 : d ≤ dim y m
        · have := dim_pos (y := y) (m := m) (by omega)
          rw [decide_eq_true h4, (vld_iff y m d).mpr ⟨h1, h2, this.1, this.2, h3, h4⟩]
        · rw [decide_eq_false h4, vld_no (by omega)]
      · rw [if_neg h3, vld_no (by omega)]
    · rw [if_neg h2, vld_no (by omega)]
  · rw [if_neg h1, vld_no (by omega)]
theorem rright_f (k : Nat) (y m d : Int) : noonmarkref04_Right.f (k + 1) y m d = some (vld y m d) := by
  unfold noonmarkref04_Right.f
  rw [rlong_f, Option.bind_some]
  by_cases h1 : y ≥ -9999
  · rw [if_pos h1]
    by_cases h2 : y ≤ 9999
    · rw [if_pos h2]
      by_cases m1 : m ≥ 1
      · rw [if_pos m1]
        by_cases m2 : m ≤ 12
        · rw [if_pos m2]
          by_cases h3 : d ≥ 1
          · rw [if_pos h3]
            by_cases h4 : d ≤ dim y m
            · rw [decide_eq_true h4, (vld_iff y m d).mpr ⟨h1, h2, m1, m2, h3, h4⟩]
            · rw [decide_eq_false h4, vld_no (by omega)]
          · rw [if_neg h3, vld_no (by omega)]
        · rw [if_neg m2, vld_no (by omega)]
      · rw [if_neg m1, vld_no (by omega)]
    · rw [if_neg h2, vld_no (by omega)]
  · rw [if_neg h1, vld_no (by omega)]
theorem mar_f (y m d : Int) (h1 : -10000 ≤ y) (h2 : y ≤ 10000) (h3 : 3 ≤ m) (h4 : m ≤ 14) (h5 : 1 ≤ d) (h6 : d ≤ 31) :
    (wrap64 ((wrap64 ((wrap64 ((wrap64 ((wrap64 ((wrap64 ((wrap64 (Int.tdiv (wrap64 (y + 12000)) 400)) * 146097)) + (wrap64 ((wrap64 ((wrap64 (y + 12000)) - (wrap64 ((wrap64 (Int.tdiv (wrap64 (y + 12000)) 400)) * 400)))) * 365)))) + (wrap64 (Int.tdiv (wrap64 ((wrap64 (y + 12000)) - (wrap64 ((wrap64 (Int.tdiv (wrap64 (y + 12000)) 400)) * 400)))) 4)))) - (wrap64 (Int.tdiv (wrap64 ((wrap64 (y + 12000)) - (wrap64 ((wrap64 (Int.tdiv (wrap64 (y + 12000)) 400)) * 400)))) 100)))) + (wrap64 ((wrap64 ((wrap64 (Int.tdiv (wrap64 ((wrap64 (153 * (wrap64 (m - 3)))) + 2)) 5)) + d)) - 1)))) - 5102378)) = mar y m d := by
  have a1 : wrap64 (y + 12000) = y + 12000 := w64 (by omega) (by omega)
  have a2 : wrap64 (Int.tdiv (y + 12000) 400) = era y := by rw [Int.tdiv_eq_ediv_of_nonneg (by omega)]; unfold era; exact w64 (by omega) (by omega)
  have be : 5 ≤ era y ∧ era y ≤ 55 := by unfold era; omega
  have bc : 0 ≤ y + 12000 - era y * 400 ∧ y + 12000 - era y * 400 ≤ 399 := by unfold era; omega
  have a3 : wrap64 (era y * 146097) = era y * 146097 := w64 (by omega) (by omega)
  have a4 : wrap64 (era y * 400) = era y * 400 := w64 (by omega) (by omega)
  have a5 : wrap64 (y + 12000 - era y * 400) = y + 12000 - era y * 400 := w64 (by omega) (by omega)
  have a6 : wrap64 (m - 3) = m - 3 := w64 (by omega) (by omega)
  have a7 : wrap64 (153 * (m - 3)) = 153 * (m - 3) := w64 (by omega) (by omega)
  have a8 : wrap64 (153 * (m - 3) + 2) = 153 * (m - 3) + 2 := w64 (by omega) (by omega)
  have a9 : wrap64 (Int.tdiv (153 * (m - 3) + 2) 5) = (153 * (m - 3) + 2) / 5 := by rw [Int.tdiv_eq_ediv_of_nonneg (by omega)]; exact w64 (by omega) (by omega)
  simp only [a1, a2, a3, a4, a5, a6, a7, a8, a9]
  unfold mar
  generalize era y = e at *
  generalize hc : y + 12000 - e * 400 = c at *
  have b1 : wrap64 (c * 365) = c * 365 := w64 (by omega) (by omega)
  have b2 : wrap64 (Int.tdiv c 4) = c / 4 := by rw [Int.tdiv_eq_ediv_of_nonneg (by omega)]; exact w64 (by omega) (by omega)
  have b3 : wrap64 (Int.tdiv c 100) = c / 100 := by rw [Int.tdiv_eq_ediv_of_nonneg (by omega)]; exact w64 (by omega) (by omega)
  simp only [b1, b2, b3]
  have hq : 0 ≤ (153 * (m - 3) + 2) / 5 ∧ (153 * (m - 3) + 2) / 5 ≤ 400 := by omega
  generalize (153 * (m - 3) + 2) / 5 = q at *
  have c1 : wrap64 (e * 146097 + c * 365) = e * 146097 + c * 365 := w64 (by omega) (by omega)
  have c2 : wrap64 (e * 146097 + c * 365 + c / 4) = e * 146097 + c * 365 + c / 4 := w64 (by omega) (by omega)
  have c3 : wrap64 (e * 146097 + c * 365 + c / 4 - c / 100) = e * 146097 + c * 365 + c / 4 - c / 100 := w64 (by omega) (by omega)
  have c4 : wrap64 (q + d) = q + d := w64 (by omega) (by omega)
  have c5 : wrap64 (q + d - 1) = q + d - 1 := w64 (by omega) (by omega)
  have c6 : wrap64 (e * 146097 + c * 365 + c / 4 - c / 100 + (q + d - 1)) = e * 146097 + c * 365 + c / 4 - c / 100 + (q + d - 1) := w64 (by omega) (by omega)
  simp only [c1, c2, c3, c4, c5, c6]
  exact w64 (by omega) (by omega)
theorem number_f (y m d : Int) (h1 : -9999 ≤ y) (h2 : y ≤ 10000) (h3 : 1 ≤ m) (h4 : m ≤ 12) (h5 : 1 ≤ d) (h6 : d ≤ 31) : civil_number.f y m d = some (num y m d) := by
  rw [← gnum_eq y m d h3 h4]
  unfold civil_number.f gnum
  by_cases h : m ≤ 2
  · rw [if_pos h, if_pos h]
    have a1 : wrap64 (y - 1) = y - 1 := w64 (by omega) (by omega)
    have a2 : wrap64 (m + 12) = m + 12 := w64 (by omega) (by omega)
    rw [a1, a2, mar_f (y - 1) (m + 12) d (by omega) (by omega) (by omega) (by omega) h5 h6]
  · rw [if_neg h, if_neg h, mar_f y m d (by omega) (by omega) (by omega) (by omega) h5 h6]
theorem days_f (y m d : Int) : civil_Days.f y m d = some (if vld y m d = true then (num y m d, 0) else (0, 6)) := by
  unfold civil_Days.f
  rw [right_f, Option.bind_some]
  by_cases h : vld y m d = true
  · rw [if_pos h, if_pos h]
    have g := (vld_iff y m d).mp h
    have := dim_bd y m g.2.2.1 g.2.2.2.1
    rw [number_f y m d (by omega) (by omega) (by omega) (by omega) (by omega) (by omega)]; rfl
  · rw [if_neg h, if_neg h]
theorem week_f (n : Int) : civil_Week.f n = some ((n + 4) % 7) := by
  unfold civil_Week.f
  have e : Int.tmod n 7 = if 0 ≤ n then n % 7 else - (-n % 7) := by
    split
    · exact Int.tmod_eq_emod_of_nonneg (by omega)
    · have := Int.neg_tmod (-n) 7
      rw [Int.neg_neg] at this; rw [this, Int.tmod_eq_emod_of_nonneg (by omega)]
  generalize ht : Int.tmod n 7 = t at *
  have bt : -6 ≤ t ∧ t ≤ 6 := by split at e <;> omega
  have a1 : wrap64 (t + 4) = t + 4 := w64 (by omega) (by omega)
  rw [a1]
  have e2 : Int.tmod (t + 4) 7 = if 0 ≤ t + 4 then (t + 4) % 7 else t + 4 := by
    split
    · exact Int.tmod_eq_emod_of_nonneg (by omega)
    · have := Int.neg_tmod (-(t + 4)) 7
      rw [Int.neg_neg] at this; rw [this, Int.tmod_eq_emod_of_nonneg (by omega)]; omega
  rw [e2]
  by_cases h : 0 ≤ t + 4
  · rw [if_pos h, if_neg (by omega)]; congr 1; split at e <;> omega
  · rw [if_neg h, if_pos (by omega)]
    have a2 : wrap64 (t + 4 + 7) = t + 4 + 7 := w64 (by omega) (by omega)
    rw [a2]; congr 1; split at e <;> omega
theorem alive_f : noonmarklaw04_alive.f = some true := by
  unfold noonmarklaw04_alive.f
  have h : vld 2000 2 29 = true := by decide
  have g : num 2000 2 29 = 11016 := by decide
  rw [days_f, if_pos h, g]
  simp [week_f, leap_f]
  decide

/-! the reference -/
theorem year_l2 (y : Int) (hy1 : -9999 ≤ y) (hy2 : y ≤ 10000) (d : Nat) : ∀ (k : Nat) (a : Int), -10800 ≤ a → a ≤ y → y - a = d → d < k → noonmarkref04_year.l2 k y (jan a) a = some (jan y) := by
  induction d with
  | zero =>
    intro k a h0 h1 hd hk
    obtain ⟨k, rfl⟩ : ∃ m, k = m + 1 := ⟨k - 1, by omega⟩
    obtain rfl : a = y := by omega
    simp only [noonmarkref04_year.l2]; rw [if_neg (by omega)]
  | succ d ih =>
    intro k a h0 h1 hd hk
    obtain ⟨k, rfl⟩ : ∃ m, k = m + 1 := ⟨k - 1, by omega⟩
    have hb : -4800000 ≤ jan a ∧ jan a ≤ 4800000 := by unfold jan; omega
    have hs := jan_succ a
    simp only [noonmarkref04_year.l2]; rw [if_pos (by omega), rleap_f, Option.bind_some]
    have e1 : wrap64 (jan a + 365) = jan a + 365 := w64 (by omega) (by omega)
    have e2 : wrap64 (jan a + 365 + 1) = jan a + 365 + 1 := w64 (by omega) (by omega)
    have e3 : wrap64 (a + 1) = a + 1 := w64 (by omega) (by omega)
    rw [e1, e2, e3]
    have := ih k (a + 1) (by omega) (by omega) (by omega) (by omega)
    unfold li at hs
    by_cases h : lp a = true
    · rw [if_pos h] at *; rw [← hs]; exact this
    · rw [if_neg h] at *; rw [← this, hs]; simp
theorem year_l1 (y : Int) (hy1 : -9999 ≤ y) (hy2 : y ≤ 10000) (d : Nat) : ∀ (k : Nat) (a : Int), a ≤ 10800 → y < a + 400 → a - y ≤ 400 * d → d + 400 < k → noonmarkref04_year.l1 k y (jan a) a = some (jan y) := by
  induction d with
  | zero =>
    intro k a h0 h1 hd hk
    obtain ⟨k, rfl⟩ : ∃ m, k = m + 1 := ⟨k - 1, by omega⟩
    simp only [noonmarkref04_year.l1]; rw [if_neg (by omega)]
    exact year_l2 y hy1 hy2 (y - a).toNat k a (by omega) (by omega) (by omega) (by omega)
  | succ d ih =>
    intro k a h0 h1 hd hk
    obtain ⟨k, rfl⟩ : ∃ m, k = m + 1 := ⟨k - 1, by omega⟩
    simp only [noonmarkref04_year.l1]
    by_cases h : a > y
    · rw [if_pos h]
      have hb : -4800000 ≤ jan a ∧ jan a ≤ 4800000 := by unfold jan; omega
      have e0 := jan_400 (a - 400)
      have e1 : wrap64 (jan a - 146097) = jan a - 146097 := w64 (by omega) (by omega)
      have e2 : wrap64 (a - 400) = a - 400 := w64 (by omega) (by omega)
      rw [Int.sub_add_cancel] at e0
      rw [e1, e2, e0, Int.add_sub_cancel]
      exact ih k (a - 400) (by omega) (by omega) (by omega) (by omega)
    · rw [if_neg h]
      exact year_l2 y hy1 hy2 (y - a).toNat k a (by omega) (by omega) (by omega) (by omega)
theorem year_l0 (y : Int) (hy1 : -9999 ≤ y) (hy2 : y ≤ 10000) (d : Nat) : ∀ (k : Nat) (a : Int), 1970 ≤ a → a ≤ 10000 → y - a < 400 * (d + 1) → d + 460 < k → noonmarkref04_year.l0 k y (jan a) a = some (jan y) := by
  induction d with
  | zero =>
    intro k a h0 h1 hd hk
    obtain ⟨k, rfl⟩ : ∃ m, k = m + 1 := ⟨k - 1, by omega⟩
    have e2 : wrap64 (a + 400) = a + 400 := w64 (by omega) (by omega)
    simp only [noonmarkref04_year.l0]; rw [e2, if_neg (by omega)]
    exact year_l1 y hy1 hy2 50 k a (by omega) (by omega) (by omega) (by omega)
  | succ d ih =>
    intro k a h0 h1 hd hk
    obtain ⟨k, rfl⟩ : ∃ m, k = m + 1 := ⟨k - 1, by omega⟩
    have e2 : wrap64 (a + 400) = a + 400 := w64 (by omega) (by omega)
    simp only [noonmarkref04_year.l0]
    rw [e2]
    by_cases h : a + 400 ≤ y
    · rw [if_pos h]
      have hb : -4800000 ≤ jan a ∧ jan a ≤ 4800000 := by unfold jan; omega
      have e1 : wrap64 (jan a + 146097) = jan a + 146097 := w64 (by omega) (by omega)
      rw [e1, ← jan_400]
      exact ih k (a + 400) (by omega) (by omega) (by omega) (by omega)
    · rw [if_neg h]
      exact year_l1 y hy1 hy2 50 k a (by omega) (by omega) (by omega) (by omega)
theorem year_f (y : Int) (hy1 : -9999 ≤ y) (hy2 : y ≤ 10000) (k : Nat) (hk : 500 < k) : noonmarkref04_year.f k y = some (jan y) := by
  unfold noonmarkref04_year.f
  rw [← jan_1970]
  exact year_l0 y hy1 hy2 21 k 1970 (by omega) (by omega) (by omega) (by omega)
theorem rdays_l0 (y m d : Int) (hv : vld y m d = true) (j : Nat) : ∀ (k : Nat) (i : Int), 1 ≤ i → i ≤ m → m - i = j → j + 2 < k → noonmarkref04_Days.l0 k y m d (jan y + cum y i) i = some (num y m d, 0) := by
  have g := (vld_iff y m d).mp hv
  have hj := jan_bd y (by omega) (by omega)
  have hdm := dim_bd y m g.2.2.1 g.2.2.2.1
  have hli := li_01 y
  induction j with
  | zero =>
    intro k i h0 h1 hd hk
    obtain ⟨k, rfl⟩ : ∃ m, k = m + 1 := ⟨k - 1, by omega⟩
    obtain rfl : i = m := by omega
    have hc := cum_mono y i h0 (by omega)
    simp only [noonmarkref04_Days.l0]; rw [if_neg (by omega)]
    have e1 : wrap64 (jan y + cum y i + d) = jan y + cum y i + d := w64 (by omega) (by omega)
    have e2 : wrap64 (jan y + cum y i + d - 1) = jan y + cum y i + d - 1 := w64 (by omega) (by omega)
    rw [e1, e2]; rfl
  | succ j ih =>
    intro k i h0 h1 hd hk
    obtain ⟨k, rfl⟩ : ∃ m, k = m + 1 := ⟨k - 1, by omega⟩
    have hc := cum_mono y i h0 (by omega)
    have hdi := dim_bd y i h0 (by omega)
    simp only [noonmarkref04_Days.l0]; rw [if_pos (by omega)]
    obtain ⟨k, rfl⟩ : ∃ m, k = m + 1 := ⟨k - 1, by omega⟩
    rw [rlong_f, Option.bind_some]
    have e1 : wrap64 (jan y + cum y i + dim y i) = jan y + cum y (i + 1) := by rw [cum_succ y i h0 (by omega), ← Int.add_assoc]; exact w64 (by omega) (by omega)
    have e2 : wrap64 (i + 1) = i + 1 := w64 (by omega) (by omega)
    rw [e1, e2]
    exact ih (k + 1) (i + 1) (by omega) (by omega) (by omega) (by omega)
theorem rdays_f (y m d : Int) (k : Nat) (hk : 500 < k) : noonmarkref04_Days.f k y m d = some (if vld y m d = true then (num y m d, 0) else (0, 6)) := by
  unfold noonmarkref04_Days.f
  obtain ⟨k, rfl⟩ : ∃ m, k = m + 1 := ⟨k - 1, by omega⟩
  rw [rright_f, Option.bind_some]
  by_cases h : vld y m d = true
  · rw [if_pos h, if_pos h]
    have g := (vld_iff y m d).mp h
    rw [year_f y (by omega) (by omega) _ hk, Option.bind_some]
    have := rdays_l0 y m d h (m - 1).toNat (k + 1) 1 (by omega) (by omega) (by omega) (by omega)
    rw [cum_one, Int.add_zero] at this
    exact this
  · rw [if_neg h, if_neg h]
end Go.Proofs.Ytiiaaomfjomccaa.Facts
