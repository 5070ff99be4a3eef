/- What the printed functions of the civil chapter answer, in the words of the plain calendar (Cal). -/
import Derived.Test.YtlonanlogdokfaaS2
import Derived.Test.YtlonanlogdokfaaS3
import Derived.Test.YtlonanlogdokfaaCal
import Derived.OpenShut
namespace Go.Proofs.Ytlonanlogdokfaa.Facts
open Go.RowKit Go.Proofs.Ytlonanlogdokfaa.S Go.Proofs.Ytlonanlogdokfaa.Cal

theorem i64_and3 (n : Int) : bits .and .i64 n 3 = n % 4 := by
  have h3 : (BitVec.ofInt 64 3).toNat = 2 ^ 2 - 1 := by decide
  have key : (BitVec.ofInt 64 n &&& BitVec.ofInt 64 3).toNat = (n % ((2 ^ 64 : Nat) : Int)).toNat % 2 ^ 2 := by
    rw [BitVec.toNat_and, BitVec.toNat_ofInt, h3, Nat.and_two_pow_sub_one_eq_mod]
  show IntKind.i64.wrap ((BitVec.ofInt 64 n &&& BitVec.ofInt 64 3).toNat : Nat) = n % 4
  rw [key, IntKind.wrap_i64]
  omega
theorem i64_and15 (n : Int) : bits .and .i64 n 15 = n % 16 := by
  have h3 : (BitVec.ofInt 64 15).toNat = 2 ^ 4 - 1 := by decide
  have key : (BitVec.ofInt 64 n &&& BitVec.ofInt 64 15).toNat = (n % ((2 ^ 64 : Nat) : Int)).toNat % 2 ^ 4 := by
    rw [BitVec.toNat_and, BitVec.toNat_ofInt, h3, Nat.and_two_pow_sub_one_eq_mod]
  show IntKind.i64.wrap ((BitVec.ofInt 64 n &&& BitVec.ofInt 64 15).toNat : Nat) = n % 16
  rw [key, IntKind.wrap_i64]
  omega
theorem tm0 (a : Int) (k : Int) : Int.tmod a k = 0 ↔ a % k = 0 := by
  rw [← Int.dvd_iff_tmod_eq_zero, ← Int.dvd_iff_emod_eq_zero]
theorem w64 {n : Int} (h1 : -9223372036854775808 ≤ n) (h2 : n ≤ 9223372036854775807) : wrap64 n = n := IntWalk.wrap64_in n ⟨h1, h2⟩

theorem leap_f (y : Int) : civil_Leap.f y = some (lp y) := by
  unfold civil_Leap.f
  rw [i64_and3, i64_and15]
  simp only [tm0]
  by_cases h : lp y = true
  · rw [h]; rw [lp_iff] at h
    rw [if_pos h.1]
    by_cases g : y % 25 = 0
    · rw [if_pos g]; congr 1; rw [beq_iff_eq]; omega
    · rw [if_neg g]
  · have h' : lp y = false := by simpa using h
    rw [h']; rw [lp_iff] at h
    by_cases g : y % 4 = 0
    · rw [if_pos g, if_pos (by omega)]; congr 1; rw [beq_eq_false_iff_ne]; omega
    · rw [if_neg g]
theorem li_of {y : Int} {b : Bool} (h : lp y = b) : li y = if b = true then 1 else 0 := by unfold li; rw [h]
theorem long_f (y m : Int) : civil_Long.f y m = some (dim y m) := by
  unfold civil_Long.f
  by_cases h1 : m < 1
  · rw [if_pos h1, dim_no y m (by omega)]
  rw [if_neg h1]
  by_cases h2 : m > 12
  · rw [if_pos h2, dim_no y m (by omega)]
  rw [if_neg h2, leap_f, Option.bind_some]
  unfold dim
  by_cases h3 : m = 2
  · rw [if_pos h3, if_pos h3]
    unfold li
    cases lp y <;> simp
  rw [if_neg h3, if_neg h3]
  by_cases h4 : m = 4 ∨ m = 6 ∨ m = 9 ∨ m = 11
  · rw [if_pos h4, if_pos h4]
  · rw [if_neg h4, if_neg h4, if_pos (by omega)]
theorem vld_no {y m d : Int} (h : ¬ (-9999 ≤ y ∧ y ≤ 9999 ∧ 1 ≤ m ∧ m ≤ 12 ∧ 1 ≤ d ∧ d ≤ dim y m)) : vld y m d = false := by
  rcases hv : vld y m d with _ | _
  · rfl
  · exact absurd ((vld_iff y m d).mp hv) h
theorem dim_pos {y m : Int} (h : 0 < dim y m) : 1 ≤ m ∧ m ≤ 12 := by
  by_cases g : 1 ≤ m ∧ m ≤ 12
  · exact g
  · rw [dim_no y m g] at h; omega
theorem right_f (y m d : Int) : civil_Right.f y m d = some (vld y m d) := by
  unfold civil_Right.f
  rw [long_f, Option.bind_some]
  by_cases h1 : y ≥ -9999
  · rw [if_pos h1]
    by_cases h2 : y ≤ 9999
    · rw [if_pos h2]
      by_cases h3 : d ≥ 1
      · rw [if_pos h3]
        by_cases h4 : d ≤ dim y m
        · have := dim_pos (y := y) (m := m) (by omega)
          rw [decide_eq_true h4, (vld_iff y m d).mpr ⟨h1, h2, this.1, this.2, h3, h4⟩]
        · rw [decide_eq_false h4, vld_no (by omega)]
      · rw [if_neg h3, vld_no (by omega)]
    · rw [if_neg h2, vld_no (by omega)]
  · rw [if_neg h1, vld_no (by omega)]
theorem mar_f (y m d : Int) (h1 : -10000 ≤ y) (h2 : y ≤ 10000) (h3 : 3 ≤ m) (h4 : m ≤ 14) (h5 : 1 ≤ d) (h6 : d ≤ 31) :
    (wrap64 ((wrap64 ((wrap64 ((wrap64 ((wrap64 ((wrap64 ((wrap64 (Int.tdiv (wrap64 (y + 12000)) 400)) * 146097)) + (wrap64 ((wrap64 ((wrap64 (y + 12000)) - (wrap64 ((wrap64 (Int.tdiv (wrap64 (y + 12000)) 400)) * 400)))) * 365)))) + (wrap64 (Int.tdiv (wrap64 ((wrap64 (y + 12000)) - (wrap64 ((wrap64 (Int.tdiv (wrap64 (y + 12000)) 400)) * 400)))) 4)))) - (wrap64 (Int.tdiv (wrap64 ((wrap64 (y + 12000)) - (wrap64 ((wrap64 (Int.tdiv (wrap64 (y + 12000)) 400)) * 400)))) 100)))) + (wrap64 ((wrap64 ((wrap64 (Int.tdiv (wrap64 ((wrap64 (153 * (wrap64 (m - 3)))) + 2)) 5)) + d)) - 1)))) - 5102378)) = mar y m d := by
  have a1 : wrap64 (y + 12000) = y + 12000 := w64 (by omega) (by omega)
  have a2 : wrap64 (Int.tdiv (y + 12000) 400) = era y := by rw [Int.tdiv_eq_ediv_of_nonneg (by omega)]; unfold era; exact w64 (by omega) (by omega)
  have be : 5 ≤ era y ∧ era y ≤ 55 := by unfold era; omega
  have bc : 0 ≤ y + 12000 - era y * 400 ∧ y + 12000 - era y * 400 ≤ 399 := by unfold era; omega
  have a3 : wrap64 (era y * 146097) = era y * 146097 := w64 (by omega) (by omega)
  have a4 : wrap64 (era y * 400) = era y * 400 := w64 (by omega) (by omega)
  have a5 : wrap64 (y + 12000 - era y * 400) = y + 12000 - era y * 400 := w64 (by omega) (by omega)
  have a6 : wrap64 (m - 3) = m - 3 := w64 (by omega) (by omega)
  have a7 : wrap64 (153 * (m - 3)) = 153 * (m - 3) := w64 (by omega) (by omega)
  have a8 : wrap64 (153 * (m - 3) + 2) = 153 * (m - 3) + 2 := w64 (by omega) (by omega)
  have a9 : wrap64 (Int.tdiv (153 * (m - 3) + 2) 5) = (153 * (m - 3) + 2) / 5 := by rw [Int.tdiv_eq_ediv_of_nonneg (by omega)]; exact w64 (by omega) (by omega)
  simp only [a1, a2, a3, a4, a5, a6, a7, a8, a9]
  unfold mar
  generalize era y = e at *
  generalize hc : y + 12000 - e * 400 = c at *
  have b1 : wrap64 (c * 365) = c * 365 := w64 (by omega) (by omega)
  have b2 : wrap64 (Int.tdiv c 4) = c / 4 := by rw [Int.tdiv_eq_ediv_of_nonneg (by omega)]; exact w64 (by omega) (by omega)
  have b3 : wrap64 (Int.tdiv c 100) = c / 100 := by rw [Int.tdiv_eq_ediv_of_nonneg (by omega)]; exact w64 (by omega) (by omega)
  simp only [b1, b2, b3]
  have hq : 0 ≤ (153 * (m - 3) + 2) / 5 ∧ (153 * (m - 3) + 2) / 5 ≤ 400 := by omega
  generalize (153 * (m - 3) + 2) / 5 = q at *
  have c1 : wrap64 (e * 146097 + c * 365) = e * 146097 + c * 365 := w64 (by omega) (by omega)
  have c2 : wrap64 (e * 146097 + c * 365 + c / 4) = e * 146097 + c * 365 + c / 4 := w64 (by omega) (by omega)
  have c3 : wrap64 (e * 146097 + c * 365 + c / 4 - c / 100) = e * 146097 + c * 365 + c / 4 - c / 100 := w64 (by omega) (by omega)
  have c4 : wrap64 (q + d) = q + d := w64 (by omega) (by omega)
  have c5 : wrap64 (q + d - 1) = q + d - 1 := w64 (by omega) (by omega)
  have c6 : wrap64 (e * 146097 + c * 365 + c / 4 - c / 100 + (q + d - 1)) = e * 146097 + c * 365 + c / 4 - c / 100 + (q + d - 1) := w64 (by omega) (by omega)
  simp only [c1, c2, c3, c4, c5, c6]
  exact w64 (by omega) (by omega)
theorem number_f (y m d : Int) (h1 : -9999 ≤ y) (h2 : y ≤ 10000) (h3 : 1 ≤ m) (h4 : m ≤ 12) (h5 : 1 ≤ d) (h6 : d ≤ 31) : civil_number.f y m d = some (num y m d) := by
  rw [← gnum_eq y m d h3 h4]
  unfold civil_number.f gnum
  by_cases h : m ≤ 2
  · rw [if_pos h, if_pos h]
    have a1 : wrap64 (y - 1) = y - 1 := w64 (by omega) (by omega)
    have a2 : wrap64 (m + 12) = m + 12 := w64 (by omega) (by omega)
    rw [a1, a2, mar_f (y - 1) (m + 12) d (by omega) (by omega) (by omega) (by omega) h5 h6]
  · rw [if_neg h, if_neg h, mar_f y m d (by omega) (by omega) (by omega) (by omega) h5 h6]
theorem days_f (y m d : Int) : civil_Days.f y m d = some (if vld y m d = true then (num y m d, 0) else (0, 6)) := by
  unfold civil_Days.f
  rw [right_f, Option.bind_some]
  by_cases h : vld y m d = true
  · rw [if_pos h, if_pos h]
    have g := (vld_iff y m d).mp h
    have := dim_bd y m g.2.2.1 g.2.2.2.1
    rw [number_f y m d (by omega) (by omega) (by omega) (by omega) (by omega) (by omega)]; rfl
  · rw [if_neg h, if_neg h]
theorem week_f (n : Int) : civil_Week.f n = some ((n + 4) % 7) := by
  unfold civil_Week.f
  have e : Int.tmod n 7 = if 0 ≤ n then n % 7 else - (-n % 7) := by
    split
    · exact Int.tmod_eq_emod_of_nonneg (by omega)
    · have := Int.neg_tmod (-n) 7
      rw [Int.neg_neg] at this; rw [this, Int.tmod_eq_emod_of_nonneg (by omega)]
  generalize ht : Int.tmod n 7 = t at *
  have bt : -6 ≤ t ∧ t ≤ 6 := by split at e <;> omega
  have a1 : wrap64 (t + 4) = t + 4 := w64 (by omega) (by omega)
  rw [a1]
  have e2 : Int.tmod (t + 4) 7 = if 0 ≤ t + 4 then (t + 4) % 7 else t + 4 := by
    split
    · exact Int.tmod_eq_emod_of_nonneg (by omega)
    · have := Int.neg_tmod (-(t + 4)) 7
      rw [Int.neg_neg] at this; rw [this, Int.tmod_eq_emod_of_nonneg (by omega)]; omega
  rw [e2]
  by_cases h : 0 ≤ t + 4
  · rw [if_pos h, if_neg (by omega)]; congr 1; split at e <;> omega
  · rw [if_neg h, if_pos (by omega)]
    have a2 : wrap64 (t + 4 + 7) = t + 4 + 7 := w64 (by omega) (by omega)
    rw [a2]; congr 1; split at e <;> omega
end Go.Proofs.Ytlonanlogdokfaa.Facts
