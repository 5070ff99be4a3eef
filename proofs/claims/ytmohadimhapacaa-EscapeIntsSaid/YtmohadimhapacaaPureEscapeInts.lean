/- The statement of numbers, of the plain functions. -/
import Derived.Test.YtmohadimhapacaaPlainE
import Derived.OpenShut
namespace Go.Proofs.Ytmohadimhapacaa.Pure
open Go.RowKit Go.Proofs.Ytmohadimhapacaa.S Go.Proofs.Ytmohadimhapacaa.Plain Go.Proofs.YtmohadimhapacaaW.PrintWords Go.Proofs.YtmohadimhapacaaW.PrintLast

theorem wf64 {n : Int} (h : (Lit.int .i64 n).wf = true) : -9223372036854775808 ≤ n ∧ n ≤ 9223372036854775807 := bounds_i64 h
theorem EscapeInts : noonmarklaw02_EscapeInts.Pure := by
  intro n s hn _
  obtain ⟨h0, h1⟩ := wf64 hn
  obtain ⟨K, hK⟩ : ∃ K : Nat, K = 4000 := ⟨_, rfl⟩
  refine ⟨K, ?_⟩
  unfold noonmarklaw02_EscapeInts.f
  have ha := alive_f K (by omega)
  by_cases h : (s.size : Int) > 1000
  · rw [if_pos h, ha]; rfl
  rw [if_neg h, parse_f s (by omega) K (by omega), rparse_f s (by omega) K (by omega), int_f n h0 h1, rint_f n h0 h1 K (by omega)]
  simp only [Option.bind_some, if_true]
  rw [ha]; rfl

end Go.Proofs.Ytmohadimhapacaa.Pure
