/- The pure part, over lists alone, of: for all lines s, with no condition, the Go law LexerRise returns true (columns rise, are in the line, and stand at no white, nor at a #). -/
import Derived.Test.YtbhbjlohmalicaaPlainB
namespace Go.Proofs.Ytbhbjlohmalicaa.Pure
open Go.RowKit Go.Proofs.Ytbhbjlohmalicaa.S Go.Proofs.Ytbhbjlohmalicaa.Plain Go.Proofs.YtbhbjlohmalicaaW.PrintWords Go.Proofs.YtbhbjlohmalicaaW.PrintLast
set_option linter.unusedVariables false
set_option linter.unusedSimpArgs false

theorem LexerRise : noonmarklaw07_LexerRise.Pure := by
  intro b hb
  refine ⟨2000, ?_⟩
  unfold noonmarklaw07_LexerRise.f
  by_cases h1 : (b.size : Int) > 1000
  · rw [if_pos h1]; simp [alive_f]
  rw [if_neg h1, fields_eq]
  have loop : ∀ (l : List S34), l.length ≤ 1500 → (∀ f ∈ l, 0 ≤ f.f1 ∧ f.f1 < b.size ∧ goodC (bt b f.f1)) → l.Pairwise (fun x y => x.f1 < y.f1) → ∀ (j k i : Nat), i + j = l.length → j < k → noonmarklaw07_LexerRise.l0 k b l i = some true := by
    intro l hl hg hp j
    induction j with
    | zero =>
      intro k i hi hk
      obtain ⟨k, rfl⟩ : ∃ m, k = m + 1 := ⟨k - 1, by omega⟩
      simp only [noonmarklaw07_LexerRise.l0]
      rw [if_neg (by omega), alive_f]; rfl
    | succ j ih =>
      intro k i hi hk
      obtain ⟨k, rfl⟩ : ∃ m, k = m + 1 := ⟨k - 1, by omega⟩
      have hil : i < l.length := by omega
      have g := hg (l[i]'hil) (List.getElem_mem hil)
      have e1 : wrap64 ((i : Int) + 1) = ((i + 1 : Nat) : Int) := by rw [w64 (by omega) (by omega)]; omega
      have next := ih k (i + 1) (by omega) (by omega)
      have prev : (if (i : Int) > 0 then (if 0 ≤ (wrap64 ((i : Int) - 1)) then (if (wrap64 ((i : Int) - 1)) < (l.length : Int) then (if ((rd_T34 l (wrap64 ((i : Int) - 1))).f1) ≥ ((rd_T34 l i).f1) then (some false) else (noonmarklaw07_LexerRise.l0 k b l (wrap64 ((i : Int) + 1)))) else (none)) else (none)) else (noonmarklaw07_LexerRise.l0 k b l (wrap64 ((i : Int) + 1)))) = some true := by
        by_cases hi0 : (i : Int) > 0
        · obtain ⟨p, rfl⟩ : ∃ p, i = p + 1 := ⟨i - 1, by omega⟩
          have e2 : wrap64 (((p + 1 : Nat) : Int) - 1) = (p : Int) := by rw [w64 (by omega) (by omega)]; omega
          rw [if_pos hi0, e2, if_pos (by omega), if_pos (by omega), rd34 l p (by omega), rd34 l (p + 1) hil, e1]
          have := List.pairwise_iff_getElem.mp hp p (p + 1) (by omega) hil (by omega)
          rw [if_neg (by omega)]; exact next
        · rw [if_neg hi0, e1]; exact next
      simp only [noonmarklaw07_LexerRise.l0]
      rw [if_pos (by omega), if_pos (by omega)]
      rw [prev]
      rw [rd34 l i hil]
      rw [if_neg (by omega), if_neg (by omega), if_pos (by omega), if_pos (by omega), if_neg g.2.2.1, if_neg g.2.2.2.1]
      by_cases h9 : bt b (l[i]'hil).f1 ≥ 9
      · rw [if_pos h9, if_neg (fun h => g.2.2.2.2 ⟨h9, h⟩)]
      · rw [if_neg h9]
  by_cases h2 : (b.size : Int) > 200
  · rw [if_pos h2, Option.bind_some, if_neg (by decide)]
    exact loop [] (by simp) (by simp) List.Pairwise.nil 0 2000 0 (by simp) (by omega)
  rw [if_neg h2]
  have inv := inv_fin b
  by_cases hq : 0 ≤ (fin b).q
  · have g := inv.quo hq
    rw [if_pos hq, Option.bind_some, if_pos rfl, if_pos (by simp), if_pos hq, if_pos g.1, if_pos hq, if_pos g.2, alive_f]; rfl
  · have c := inv.close
    have hl := fin_len b
    rw [if_neg hq, Option.bind_some, if_neg (by simp)]
    exact loop _ (by omega) c.outs c.rise (fin b).close.out.length 2000 0 (by omega) (by omega)

end Go.Proofs.Ytbhbjlohmalicaa.Pure
