/- The statement of Show, of the plain functions. -/
import Derived.Test.YtbhbjlohmalicaaPlainD
namespace Go.Proofs.Ytbhbjlohmalicaa.Pure
open Go.RowKit Go.Proofs.Ytbhbjlohmalicaa.S Go.Proofs.Ytbhbjlohmalicaa.Plain Go.Proofs.YtbhbjlohmalicaaW.PrintWords Go.Proofs.YtbhbjlohmalicaaW.PrintLast

theorem LexerShows (l : List ByteArray) : ∃ k, noonmarklaw07_LexerShows.f k l = some true := by
  refine ⟨20000, ?_⟩
  unfold noonmarklaw07_LexerShows.f
  obtain ⟨b, e, hb⟩ := light_f l 20000 (by omega)
  rw [e, Option.bind_some, alive_f]
  cases b with
  | false => rfl
  | true =>
    have hl := hb rfl
    rw [if_pos rfl, eshow_f l hl 20000 (by omega), rshow_f l hl 20000 (by omega)]
    simp only [Option.bind_some, if_true]

end Go.Proofs.Ytbhbjlohmalicaa.Pure
