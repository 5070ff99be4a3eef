/- The pure part, over lists alone, of: for all lines s, with no condition, the Go law LexerFields returns true (the fields, or where a quote has no end, are as in the reference). -/
import Derived.Test.YtbhbjlohmalicaaPlainC
namespace Go.Proofs.Ytbhbjlohmalicaa.Pure
open Go.RowKit Go.Proofs.Ytbhbjlohmalicaa.S Go.Proofs.Ytbhbjlohmalicaa.Plain Go.Proofs.YtbhbjlohmalicaaW.PrintWords Go.Proofs.YtbhbjlohmalicaaW.PrintLast
set_option linter.unusedVariables false
set_option linter.unusedSimpArgs false

theorem LexerFields : noonmarklaw07_LexerFields.Pure := by
  intro b hb
  refine ⟨80000, ?_⟩
  unfold noonmarklaw07_LexerFields.f
  by_cases h1 : (b.size : Int) > 1000
  · rw [if_pos h1]; simp [alive_f]
  rw [if_neg h1, fields_eq, rfields_f]
  by_cases h2 : (b.size : Int) > 200
  · rw [if_pos h2, if_pos h2]
    simp only [Option.bind_some]
    rw [back_f [] (by simp) 80000 (by simp), Option.bind_some]
    have := same_f [] (by simp) 80000 (by simp)
    simp only [List.map_nil]
    rw [this]; simp [alive_f]
  rw [if_neg h2, if_neg h2]
  unfold tells
  by_cases h3 : 0 ≤ (fin b).q
  · rw [if_pos h3, if_pos h3]
    simp only [Option.bind_some]
    rw [back_f [] (by simp) 80000 (by simp), Option.bind_some]
    have := same_f [] (by simp) 80000 (by simp)
    simp only [List.map_nil]
    rw [this]; simp [alive_f]
  · rw [if_neg h3, if_neg h3]
    simp only [Option.bind_some]
    have hl := fin_len b
    rw [back_f _ (by omega) 80000 (by omega), Option.bind_some, same_f _ (by simp; omega) 80000 (by simp; omega)]
    simp [alive_f]

end Go.Proofs.Ytbhbjlohmalicaa.Pure
