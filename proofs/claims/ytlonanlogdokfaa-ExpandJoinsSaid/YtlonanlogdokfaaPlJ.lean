/- The law of two stretches of years, one behind the other. -/
import Derived.Test.YtlonanlogdokfaaPlD
import Derived.Test.YtlonanlogdokfaaSJ
namespace Go.Proofs.Ytlonanlogdokfaa.S
open Go.RowKit Go.Proofs.Ytlonanlogdokfaa.Facts
open Go.Proofs.YtlonanlogdokfaaW.PrintWords Go.Proofs.YtlonanlogdokfaaW.PrintLast Go.Proofs.YtlonanlogdokfaaW.PrintMore
set_option linter.unusedVariables false
theorem joins_j0 (l : List S42) (hl : lightL l) (a m b : Int) (h0 : -20000 ≤ a) (h1 : b ≤ 20000) (h2 : a ≤ m) (h3 : m ≤ b) (h4 : b - a ≤ 30) : noonmarklaw14_ExpandJoins.j0 3001 l a m b false = some true := by
  have h8 := hl.1
  rw [noonmarklaw14_ExpandJoins.j0, if_neg (by decide)]
  have hw : wrap64 (m + 1) = m + 1 := w64 (by omega) (by omega)
  have n1 := FromE_len l h8 a m (by omega)
  have n2 := FromE_len l h8 (m + 1) b (by omega)
  have n3 := FromE_len l h8 a b (by omega)
  rw [hw, from_ev 3000 (by decide) l hl a m ⟨by omega, by omega⟩ (by omega), Option.bind_some, from_ev 3000 (by decide) l hl (m + 1) b ⟨by omega, by omega⟩ (by omega), Option.bind_some,
    from_ev 3000 (by decide) l hl a b ⟨by omega, by omega⟩ (by omega), Option.bind_some, back_ev _ 3000 (by omega) (by omega), Option.bind_some, back_ev _ 3000 (by omega) (by omega), Option.bind_some,
    if_pos (by rw [List.length_map, List.length_map]; omega), back_ev _ 3000 (by omega) (by omega), Option.bind_some, ← List.map_append, joins l a m b h2 h3,
    same_ev _ 3000 (by rw [List.length_map]; omega) (by rw [List.length_map]; omega), Option.bind_some, if_pos rfl]
  rfl
theorem joins_ev (l : List S42) (a m b : Int) : noonmarklaw14_ExpandJoins.f 3001 l a m b = some true := by
  have out : noonmarklaw14_ExpandJoins.j0 3001 l a m b true = some true := by
    rw [noonmarklaw14_ExpandJoins.j0, if_pos rfl]; rfl
  unfold noonmarklaw14_ExpandJoins.f
  obtain ⟨x, hx, hL⟩ := light_ev l 3001 (by decide)
  rw [hx, Option.bind_some]
  cases x with
  | false => rw [if_neg (by decide)]; exact out
  | true =>
    rw [if_pos rfl]
    by_cases c1 : a < -20000
    · rw [if_pos c1]; exact out
    by_cases c2 : b > 20000
    · rw [if_neg c1, if_pos c2]; exact out
    by_cases c3 : a > m
    · rw [if_neg c1, if_neg c2, if_pos c3]; exact out
    by_cases c4 : m > b
    · rw [if_neg c1, if_neg c2, if_neg c3, if_pos c4]; exact out
    rw [if_neg c1, if_neg c2, if_neg c3, if_neg c4]
    have hw : wrap64 (b - a) = b - a := w64 (by omega) (by omega)
    rw [hw]
    by_cases c5 : b - a > 30
    · rw [decide_eq_true c5]; exact out
    · rw [decide_eq_false c5]
      exact joins_j0 l (hL rfl) a m b (by omega) (by omega) (by omega) (by omega) (by omega)
theorem expandJoins_any (A0 : Option Addr) (c0 : Nat) (l0 : List S42) (a1 a2 a3 : Int) (w : World) (hc : l0.length ≤ c0) (hC : Kd.C k42 w A0 l0.length l0) :
    Calls Try.prog 4 #[.slice A0 l0.length c0, .int .i64 a1, .int .i64 a2, .int .i64 a3] w fun e w' => e = .returned (.bool true) ∧ Below w.heap.size w w' :=
  noonmarklaw14_ExpandJoins.calls 3001 A0 c0 l0 a1 a2 a3 true w hC hc (joins_ev l0 a1 a2 a3)
end Go.Proofs.Ytlonanlogdokfaa.S
