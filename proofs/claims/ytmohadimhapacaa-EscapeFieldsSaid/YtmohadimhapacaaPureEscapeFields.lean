/- The statement of fields, of the plain functions. -/
import Derived.Test.YtmohadimhapacaaPlainH
namespace Go.Proofs.Ytmohadimhapacaa.Pure
open Go.RowKit Go.Proofs.Ytmohadimhapacaa.S Go.Proofs.Ytmohadimhapacaa.Plain Go.Proofs.YtmohadimhapacaaW.PrintWords Go.Proofs.YtmohadimhapacaaW.PrintLast

theorem EscapeFields (s : ByteArray) (l : List ByteArray) (_ : s.size ≤ 140737488351232) : ∃ k, noonmarklaw02_EscapeFields.f k s l = some true := by
  obtain ⟨K, hK⟩ : ∃ K : Nat, K = 200000 := ⟨_, rfl⟩
  refine ⟨K + 1, ?_⟩
  have ha := alive_f K (by omega)
  unfold noonmarklaw02_EscapeFields.f
  simp only [noonmarklaw02_EscapeFields.j0]
  by_cases h : (s.size : Int) > 500
  · rw [if_pos h, if_pos trivial, ha]; rfl
  rw [if_neg h]
  obtain ⟨b, e, hb⟩ := light_f l (K + 1) (by omega)
  rw [e, Option.bind_some]
  cases b with
  | false => rw [if_pos (by rfl), ha]; rfl
  | true =>
    have hl := hb rfl
    have hlen : (if s.size = 0 then (([] : List ByteArray), (0 : Int)) else fl (s.size + 1) s []).1.length ≤ 1000 := by
      split
      · simp
      · have := fl_len (s.size + 1) s []
        rw [List.length_nil] at this
        omega
    rw [if_neg (by decide), fields_f s (by omega) K (by omega), rfields_f s (by omega) K (by omega), ejoin_f l hl K (by omega), rjoin_f l hl K (by omega)]
    simp only [Option.bind_some]
    rw [texts_f _ (by omega) K (by omega)]
    simp only [Option.bind_some, if_true]
    rw [ha]; rfl

end Go.Proofs.Ytmohadimhapacaa.Pure
