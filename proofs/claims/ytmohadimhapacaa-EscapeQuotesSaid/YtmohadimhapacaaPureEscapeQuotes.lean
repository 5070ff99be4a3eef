/- The statement of quoted texts, of the plain functions. -/
import Derived.Test.YtmohadimhapacaaPlainC
namespace Go.Proofs.Ytmohadimhapacaa.Pure
open Go.RowKit Go.Proofs.Ytmohadimhapacaa.S Go.Proofs.Ytmohadimhapacaa.Plain Go.Proofs.YtmohadimhapacaaW.PrintWords Go.Proofs.YtmohadimhapacaaW.PrintLast

theorem EscapeQuotes : noonmarklaw02_EscapeQuotes.Pure := by
  intro s t _ _
  obtain ⟨K, hK⟩ : ∃ K : Nat, K = 2000 := ⟨_, rfl⟩
  refine ⟨K + 1, ?_⟩
  unfold noonmarklaw02_EscapeQuotes.f
  simp only [noonmarklaw02_EscapeQuotes.j0]
  have ha := alive_f K (by omega)
  by_cases h : (s.size : Int) > 500
  · rw [if_pos h, if_pos trivial, ha]; rfl
  rw [if_neg h]
  by_cases h2 : (t.size : Int) > 500
  · rw [if_pos (decide_eq_true h2), ha]; rfl
  rw [if_neg (by simpa using h2), runquote_f t (by omega) K (by omega), quote_f s (by omega) K (by omega), rquote_f s (by omega) K (by omega), unquote_f t (by omega)]
  simp only [Option.bind_some, if_true]
  rw [ha]; rfl

end Go.Proofs.Ytmohadimhapacaa.Pure
