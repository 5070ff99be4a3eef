/- The statement of a number's digits, of the plain functions. -/
import Derived.Test.YtmohadimhapacaaPlainE
import Derived.OpenShut
import Derived.Test.YtmohadimhapacaaS12
namespace Go.Proofs.Ytmohadimhapacaa.Pure
open Go.RowKit Go.Proofs.Ytmohadimhapacaa.S Go.Proofs.Ytmohadimhapacaa.Plain Go.Proofs.YtmohadimhapacaaW.PrintWords Go.Proofs.YtmohadimhapacaaW.PrintLast
set_option linter.unusedVariables false

theorem EscapeOrder : noonmarklaw02_EscapeOrder.Pure := by
  intro n hn
  obtain ⟨h0, h1⟩ := bounds_i64 hn
  obtain ⟨K, hK⟩ : ∃ K : Nat, K = 5000 := ⟨_, rfl⟩
  refine ⟨K + 1, ?_⟩
  unfold noonmarklaw02_EscapeOrder.f
  have ha := alive_f K (by omega)
  rw [int_f n h0 h1, Option.bind_some]
  have hbl := bl_str _ (decS_byte n)
  have hsz := strOfNums_size (decS n)
  have hlen := decS_len n
  -- the parts of the text
  have hpart : ∃ (pre : List Int) (u : Int), decS n = pre ++ dg 20 u ∧ 0 ≤ u ∧ u ≤ 9223372036854775808 ∧ ((n < 0 ∧ pre = [45] ∧ n = -u) ∨ (¬ n < 0 ∧ pre = [] ∧ n = u)) := by
    unfold decS
    by_cases h : n < 0
    · rw [if_pos h]; exact ⟨[45], -n, rfl, by omega, by omega, Or.inl ⟨h, rfl, by omega⟩⟩
    · rw [if_neg h]; exact ⟨[], n, rfl, by omega, by omega, Or.inr ⟨h, rfl, rfl⟩⟩
  obtain ⟨pre, u, hd, hu0, hu1, hside⟩ := hpart
  have hdg : dg 20 u = if u / 10 = 0 then [48 + u % 10] else dg 19 (u / 10) ++ [48 + u % 10] := rfl
  have hlast : ∃ q x, dg 20 u = q ++ [x] ∧ q = (if u / 10 = 0 then [] else dg 19 (u / 10)) := by
    rw [hdg]
    by_cases h : u / 10 = 0
    · rw [if_pos h, if_pos h]; exact ⟨[], _, rfl, rfl⟩
    · rw [if_neg h, if_neg h]; exact ⟨_, _, rfl, rfl⟩
  obtain ⟨q, x, hqx, hq⟩ := hlast
  have hall : decS n = (pre ++ q) ++ [x] := by rw [hd, hqx, List.append_assoc]
  have hlen2 : (decS n).length = (pre ++ q).length + 1 := by rw [hall, List.length_append]; rfl
  generalize hs : strOfNums (decS n) = s at *
  rw [if_neg (by omega), if_pos (by omega)]
  have h0s : 0 < s.size := by omega
  have hdrop := bl_drop s 0 h0s
  rw [List.drop_zero, hbl] at hdrop
  have hflag : ((bt s 0 == 45) != decide (n < 0)) = false := by
    rcases hside with ⟨a, b, c⟩ | ⟨a, b, c⟩
    · rw [hd, b] at hdrop
      injection hdrop with e _
      rw [show bt s 0 = 45 from e.symm, decide_eq_true a]; rfl
    · rw [hd, b, List.nil_append] at hdrop
      have hdig := dg_dig 20 u
      rw [hdrop, List.all_cons, Bool.and_eq_true, dig_iff] at hdig
      have h48 : 48 ≤ bt s 0 := hdig.1.1
      rw [decide_eq_false a, show (bt s 0 == 45) = false from beq_eq_false_iff_ne.2 (by omega)]; rfl
  rw [hflag]
  simp only [noonmarklaw02_EscapeOrder.j0]
  rw [if_neg (by decide), w64 (by omega) (by omega), if_pos (by omega), if_pos (by omega)]
  have hx : bl (s.extract 0 ((s.size : Int) - 1).toNat) = pre ++ q := by
    rw [bl_upto, hbl, hall, show ((s.size : Int) - 1).toNat = (pre ++ q).length by omega, List.take_left]
  have hxs : (s.extract 0 ((s.size : Int) - 1).toNat).size ≤ 30 := by rw [← bl_len, hx]; omega
  rw [parse_f _ (by omega) K (by omega), Option.bind_some, hx]
  by_cases hsm : u < 10
  · rw [if_pos (by omega), if_pos (by omega)]
    have hq0 : q = [] := by rw [hq, if_pos (by omega)]
    rw [hq0, List.append_nil] at hlen2
    rcases hside with ⟨a, b, c⟩ | ⟨a, b, c⟩
    · rw [b] at hlen2
      rw [if_neg (by simp at hlen2; omega), if_pos (by simp at hlen2; omega), decide_eq_true a]
    · rw [b] at hlen2
      rw [if_pos (by simp at hlen2; omega), if_pos (by omega)]
  · have hqd : q = dg (18 + 1) (u / 10) := by rw [hq, if_neg (by omega)]
    have hval : (pI (pre ++ q)).1 = wrap64 (Int.tdiv n 10) := by
      rcases hside with ⟨a, b, c⟩ | ⟨a, b, c⟩
      · rw [b, hqd, List.singleton_append, pI_low 18 (u / 10) (by omega) (by omega) (by omega), c, Int.neg_tdiv, Int.tdiv_eq_ediv_of_nonneg hu0, w64 (by omega) (by omega)]
      · rw [b, hqd, List.nil_append, pI_high 18 (u / 10) (by omega) (by omega) (by omega), c, Int.tdiv_eq_ediv_of_nonneg hu0, w64 (by omega) (by omega)]
    by_cases h10 : n > -10
    · rw [if_pos h10, if_neg (by omega), if_pos hval, ha]; rfl
    · rw [if_neg h10, if_pos hval, ha]; rfl

end Go.Proofs.Ytmohadimhapacaa.Pure
