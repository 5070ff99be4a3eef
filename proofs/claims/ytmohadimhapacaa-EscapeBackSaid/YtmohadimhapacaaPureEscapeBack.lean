/- The statement that all is read as it was written, of the plain functions. -/
import Derived.Test.YtmohadimhapacaaPlainE
import Derived.Test.YtmohadimhapacaaPlainH
import Derived.OpenShut
namespace Go.Proofs.Ytmohadimhapacaa.Pure
open Go.RowKit Go.Proofs.Ytmohadimhapacaa.S Go.Proofs.Ytmohadimhapacaa.Plain Go.Proofs.YtmohadimhapacaaW.PrintWords Go.Proofs.YtmohadimhapacaaW.PrintLast

theorem EscapeBack (n : Int) (s r : ByteArray) (l : List ByteArray) (hn : (Lit.int .i64 n).wf = true) (_ : s.size ≤ 140737488351232) (_ : r.size ≤ 140737488351232) : ∃ k, noonmarklaw02_EscapeBack.f k n s r l = some true := by
  obtain ⟨h0, h1⟩ := bounds_i64 hn
  obtain ⟨K, hK⟩ : ∃ K : Nat, K = 200000 := ⟨_, rfl⟩
  refine ⟨K + 1, ?_⟩
  have ha := alive_f K (by omega)
  unfold noonmarklaw02_EscapeBack.f
  simp only [noonmarklaw02_EscapeBack.j0]
  by_cases h : (s.size : Int) > 500
  · rw [if_pos h, if_pos trivial, ha]; rfl
  rw [if_neg h]
  by_cases hr : (r.size : Int) > 500
  · rw [if_pos hr, if_pos trivial, ha]; rfl
  rw [if_neg hr]
  obtain ⟨b, e, hb⟩ := light_f l (K + 1) (by omega)
  rw [e, Option.bind_some]
  cases b with
  | false => rw [if_pos (by rfl), ha]; rfl
  | true =>
    have hl := hb rfl
    have hsd := strOfNums_size (decS n)
    have hld := decS_len n
    have hfl := flat_len (bl s) (bl_byte s)
    rw [bl_len] at hfl
    have hq0 : (quo (bl s)).length = (flat (bl s)).length + 2 := by unfold quo; simp
    have hqs : (strOfNums (quo (bl s))).size = (quo (bl s)).length := strOfNums_size _
    have hqr : (strOfNums (quo (bl s)) ++ r).size ≤ 100000 := by rw [ByteArray.size_append]; omega
    have h30 := hl.1
    rw [if_neg (by decide), int_f n h0 h1, Option.bind_some, parse_f _ (by omega) K (by omega), Option.bind_some, bl_str _ (decS_byte n), pI_decS n h0 h1, quote_f s (by omega) K (by omega), Option.bind_some,
      if_pos (by omega), unquote_quo (bl s) r (bl_byte s) hqr, Option.bind_some, ejoin_f l hl K (by omega), Option.bind_some, fields_join l hl K (by omega), Option.bind_some]
    simp only [if_true, str_bl, hqs]
    rw [texts_f l (by omega) K (by omega)]
    simp only [Option.bind_some, if_true]
    rw [ha]; rfl

end Go.Proofs.Ytmohadimhapacaa.Pure
