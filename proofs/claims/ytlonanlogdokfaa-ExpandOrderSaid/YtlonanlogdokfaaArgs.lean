/- What the cells of a law's rules hold. -/
import Derived.Test.YtlonanlogdokfaaS0
import Derived.Deep.Slices
import Derived.Deep.SlicePairs
import Derived.Lib.SmallJoins
import Derived.WalkKit
import Derived.ProofKit
import Derived.OpenShut
import Derived.ChangeOld
import Derived.Below
import Derived.SizedLaws
namespace Go.Proofs.Ytlonanlogdokfaa.Args
open Go.Joins Go.ChangeShapes Go.WideShapes Go.ChangeAt Go.RowKit Go.Deep Go.Proofs.YtlonanlogdokfaaW.PrintWords Go.Proofs.YtlonanlogdokfaaW.PrintMore Go.Proofs.Ytlonanlogdokfaa.S
set_option linter.unusedVariables false
set_option linter.unusedSimpArgs false
variable {H : Type} {enc : TypeId × Value → H} {W : World}
theorem int_cell {n : Nat} {v : Value} {y : DataW H × List MemPlace} (h : DataW.trod enc Try.prog W 0 (fun _ => true) true n 3 [v] = some y) : ∃ k : Int, v = .int .i64 k := by
  obtain ⟨k, h1, _, h2⟩ := DataW.trod_int Try.underlying3 h
  simp only [List.cons.injEq, and_true] at h1
  exact ⟨k, h1⟩
theorem str_cell {n : Nat} {v : Value} {y : DataW H × List MemPlace} (h : DataW.trod enc Try.prog W 0 (fun _ => true) true n 9 [v] = some y) : ∃ s : ByteArray, v = .string s := by
  obtain ⟨s, h1, _⟩ := DataW.trod_string Try.underlying9 h
  simp only [List.cons.injEq, and_true] at h1
  exact ⟨s, h1⟩
theorem rule_of {n : Nat} {cs : List Value} {x : DataW H × List MemPlace} (h : DataW.trod enc Try.prog W 0 (fun _ => true) true n 42 cs = some x) (hl : cs.length = 11) :
    ∃ r : S42, cs = [.string r.f0, .int .i64 r.f1, .int .i64 r.f2, .int .i64 r.f3, .int .i64 r.f4.f0, .int .i64 r.f4.f1, .int .i64 r.f4.f2, .int .i64 r.f5.f0, .int .i64 r.f5.f1, .int .i64 r.f6, .string r.f7] := by
  obtain ⟨xs, k, _, _, _, hxl, hf⟩ := DataW.trod_struct Try.underlying42 h
  match cs, hl with
  | [c0, c1, c2, c3, c4, c5, c6, c7, c8, c9, c10], _ =>
    match xs, hxl with
    | [y0, y1, y2, y3, y4, y5, y6, y7], _ =>
      have g0 := hf 0 _ rfl
      have g1 := hf 1 _ rfl
      have g2 := hf 2 _ rfl
      have g3 := hf 3 _ rfl
      have g4 := hf 4 _ rfl
      have g5 := hf 5 _ rfl
      have g6 := hf 6 _ rfl
      have g7 := hf 7 _ rfl
      rw [show ([y0, y1, y2, y3, y4, y5, y6, y7][0]?) = some y0 from rfl] at g0
      have z1 : Try.prog.cellsOf 3 = 1 := by kernel_rfl
      have z9 : Try.prog.cellsOf 9 = 1 := by kernel_rfl
      have z38 : Try.prog.cellsOf 38 = 3 := by kernel_rfl
      have z40 : Try.prog.cellsOf 40 = 2 := by kernel_rfl
      simp only [z1, z9, z38, z40, List.drop_zero, List.drop_succ_cons, List.take_succ_cons, List.take_zero, List.getElem?_cons_zero, List.getElem?_cons_succ] at g0 g1 g2 g3 g4 g5 g6 g7
      obtain ⟨s0, rfl⟩ := str_cell g0
      obtain ⟨k1, rfl⟩ := int_cell g1
      obtain ⟨k2, rfl⟩ := int_cell g2
      obtain ⟨k3, rfl⟩ := int_cell g3
      obtain ⟨k9, rfl⟩ := int_cell g6
      obtain ⟨s7, rfl⟩ := str_cell g7
      obtain ⟨u0, u1, u2, m, _, _, d0, d1, d2⟩ := trod_struct3 Try.underlying38 g4
      obtain ⟨t0, t1, m', _, _, e0, e1⟩ := trod_struct2 Try.underlying40 g5
      simp only [z1, List.drop_zero, List.drop_succ_cons, List.take_succ_cons, List.take_zero] at d0 d1 d2 e0 e1
      obtain ⟨k4, rfl⟩ := int_cell d0
      obtain ⟨k5, rfl⟩ := int_cell d1
      obtain ⟨k6, rfl⟩ := int_cell d2
      obtain ⟨k7, rfl⟩ := int_cell e0
      obtain ⟨k8, rfl⟩ := int_cell e1
      exact ⟨⟨s0, k1, k2, k3, ⟨k4, k5, k6⟩, ⟨k7, k8⟩, k9, s7⟩, rfl⟩
instance : Inhabited S42 := ⟨z42⟩
theorem rules_arg {base : Nat} {v : Value} {d : DataW H} {p : List MemPlace} (hv : Value.okWide Try.prog W .any base 22 v) (h : DataW.Trod enc Try.prog W 0 (fun _ => true) true 22 v d p) :
    ∃ (A : Option Addr) (c : Nat) (l : List S42), v = .slice A l.length c ∧ l.length ≤ c ∧ Kd.C k42 W A l.length l := by
  obtain ⟨a0, len0, cap0, rfl⟩ := okWide_slice Try.underlying22 hv
  obtain ⟨fuel, hf⟩ := h
  have z42 : Try.prog.cellsOf 42 = 11 := by kernel_rfl
  rcases open_slice Try.underlying22 hf with ⟨hcs, hx⟩ | ⟨a, len, cap, m, n, D, Pl, hcs, _, hl, hm, hmm, _, hel⟩
  · simp [Value.cells] at hcs
    obtain ⟨rfl, rfl, rfl⟩ := hcs
    exact ⟨none, 0, [], rfl, Nat.le_refl _, ⟨rfl, by decide, fun h => absurd h (by decide)⟩⟩
  · simp [Value.cells] at hcs
    obtain ⟨rfl, rfl, rfl⟩ := hcs
    simp only [if_true] at hmm
    subst hmm
    rw [z42] at hel
    have hm' : m ≤ 9223372036854775807 := hm
    obtain ⟨f, hf2⟩ := choose_lt (α := S42) (p := fun i r => W.cells? 0 (a.add (i * 11)) 11 = some [.string r.f0, .int .i64 r.f1, .int .i64 r.f2, .int .i64 r.f3, .int .i64 r.f4.f0, .int .i64 r.f4.f1, .int .i64 r.f4.f2, .int .i64 r.f5.f0, .int .i64 r.f5.f1, .int .i64 r.f6, .string r.f7]) (n := m) (fun i hi => by
      obtain ⟨cs', h1, h2⟩ := hel i hi
      obtain ⟨_, hlen, _⟩ := World.cells?_some h1
      obtain ⟨r, rfl⟩ := rule_of h2 hlen
      exact ⟨r, h1⟩)
    have hlen : ((List.range len0).map f).length = len0 := by simp
    refine ⟨some a, m, (List.range len0).map f, by rw [hlen], by omega, ⟨rfl, by omega, fun hn => ⟨a, rfl, fun j p hj => ?_⟩⟩⟩
    rw [List.getElem?_map] at hj
    have hjl : j < len0 := by
      rcases Nat.lt_or_ge j len0 with h | h
      · exact h
      · rw [List.getElem?_eq_none (by simpa using h)] at hj; cases hj
    rw [List.getElem?_range hjl] at hj
    simp only [Option.map_some, Option.some.injEq] at hj
    subst hj
    have h1 := hf2 j (by omega)
    obtain ⟨_, hcl, hcell⟩ := World.cells?_some h1
    refine ⟨_, rfl, k42_mk W (f j), fun i u hi => ?_⟩
    have hi11 : i < 11 := by
      rcases Nat.lt_or_ge i 11 with h | h
      · exact h
      · rw [List.getElem?_eq_none (by simpa using h)] at hi; cases hi
    have h2 := hcell i (by omega)
    rw [Go.Deep.add_add] at h2
    rw [show k42.sz = 11 from rfl, h2]
    exact hi
end Go.Proofs.Ytlonanlogdokfaa.Args
