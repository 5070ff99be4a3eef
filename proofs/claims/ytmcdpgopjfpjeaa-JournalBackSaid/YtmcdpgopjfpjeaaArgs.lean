/- What the cells of the laws' arguments hold: slices of bytes, of records, of slices of bytes, of bools; a record by value. -/
import Derived.Test.YtmcdpgopjfpjeaaS0
import Derived.Deep.Slices
import Derived.Deep.SlicePairs
import Derived.Lib.SmallJoins
import Derived.WalkKit
import Derived.ProofKit
import Derived.OpenShut
import Derived.ChangeOld
import Derived.Below
import Derived.SizedLaws
namespace Go.Proofs.Ytmcdpgopjfpjeaa.Args
open Go.Joins Go.ChangeShapes Go.WideShapes Go.ChangeAt Go.RowKit Go.Deep Go.Proofs.YtmcdpgopjfpjeaaW.PrintWords Go.Proofs.YtmcdpgopjfpjeaaW.PrintMore Go.Proofs.Ytmcdpgopjfpjeaa.S
set_option linter.unusedVariables false
set_option linter.unusedSimpArgs false
/-- all are bytes -/
def Bytes (l : List Int) : Prop := ∀ b ∈ l, 0 ≤ b ∧ b ≤ 255
variable {H : Type} {enc : TypeId × Value → H} {W : World}
theorem wf_u8 {n : Int} (h : (Lit.int .u8 n).wf = true) : 0 ≤ n ∧ n ≤ 255 := by
  simp only [Lit.wf, IntKind.min, IntKind.max, IntKind.signed, IntKind.bits, Bool.and_eq_true, decide_eq_true_eq] at h
  simp at h; omega
theorem bytes_trod {fuel : Nat} {v : Value} {x : DataW H × List MemPlace} (hv : ∃ a n c, v = .slice a n c) (h : DataW.trod enc Try.prog W 0 (fun _ => true) true fuel 22 [v] = some x) :
    ∃ (A : Option Addr) (c : Nat) (l : List Int), v = .slice A l.length c ∧ l.length ≤ c ∧ Kd.C (Kd.int .u8) W A l.length l ∧ Bytes l := by
  rcases open_ints Try.underlying22 Try.underlying5 (by kernel_rfl) h with ⟨hcs, hx⟩ | ⟨a, len, cap, zs, hcs, _, hl, hm, hz, hx, hcell, hwf⟩
  · simp only [List.cons.injEq, and_true] at hcs
    exact ⟨none, 0, [], hcs, Nat.le_refl _, Kd.C_of_reads (d := 0) ⟨rfl, by decide, fun h => absurd h (by decide)⟩, fun b hb => by cases hb⟩
  · simp only [List.cons.injEq, and_true] at hcs
    simp only [if_true] at hz
    have hlen : (zs.take len).length = len := by rw [List.length_take]; omega
    have hm' : cap ≤ 9223372036854775807 := hm
    refine ⟨some a, cap, zs.take len, by rw [hlen]; exact hcs, by omega, ?_, fun b hb => wf_u8 (hwf b (List.mem_of_mem_take hb))⟩
    refine Kd.C_of_reads (d := 0) ⟨rfl, by omega, fun hn => ⟨a, rfl, fun j hj => ?_⟩⟩
    have := hcell j (by omega)
    rw [this, List.getD_eq_getElem?_getD, List.getD_eq_getElem?_getD, List.getElem?_take_of_lt (by omega)]
theorem bytes_arg {base : Nat} {v : Value} {d : DataW H} {p : List MemPlace} (hv : Value.okWide Try.prog W .any base 22 v) (h : DataW.Trod enc Try.prog W 0 (fun _ => true) true 22 v d p) :
    ∃ (A : Option Addr) (c : Nat) (l : List Int), v = .slice A l.length c ∧ l.length ≤ c ∧ Kd.C (Kd.int .u8) W A l.length l ∧ Bytes l := by
  obtain ⟨a0, len, cap, rfl⟩ := okWide_slice Try.underlying22 hv
  obtain ⟨fuel, hf⟩ := h
  exact bytes_trod ⟨_, _, _, rfl⟩ hf
theorem trod_slice_form {fuel : Nat} {v : Value} {x : DataW H × List MemPlace} (h : DataW.trod enc Try.prog W 0 (fun _ => true) true fuel 22 [v] = some x) : ∃ a n c, v = .slice a n c := by
  rcases open_ints Try.underlying22 Try.underlying5 (by kernel_rfl) h with ⟨hcs, hx⟩ | ⟨a, len, cap, zs, hcs, _⟩
  · simp only [List.cons.injEq, and_true] at hcs; exact ⟨_, _, _, hcs⟩
  · simp only [List.cons.injEq, and_true] at hcs; exact ⟨_, _, _, hcs⟩
/-- an int64 -/
def I64 (n : Int) : Prop := -9223372036854775808 ≤ n ∧ n ≤ 9223372036854775807
theorem wf_i64' {n : Int} (h : (Lit.int .i64 n).wf = true) : I64 n := by
  simp only [Lit.wf, IntKind.min, IntKind.max, IntKind.signed, IntKind.bits, Bool.and_eq_true, decide_eq_true_eq] at h
  simp at h; unfold I64; omega
theorem rec_trod {n : Nat} {v0 v1 : Value} {y0 y1 : DataW H × List MemPlace} (h0 : DataW.trod enc Try.prog W 0 (fun _ => true) true n 3 [v0] = some y0) (h1 : DataW.trod enc Try.prog W 0 (fun _ => true) true n 22 [v1] = some y1) :
    ∃ (k : Int) (A : Option Addr) (c : Nat) (l : List Int), v0 = .int .i64 k ∧ I64 k ∧ v1 = .slice A l.length c ∧ l.length ≤ c ∧ Kd.C (Kd.int .u8) W A l.length l ∧ Bytes l := by
  obtain ⟨A, c, l, rfl, hc, hC, hB⟩ := bytes_trod (trod_slice_form h1) h1
  obtain ⟨k, hk, hw⟩ : ∃ k, v0 = .int .i64 k ∧ (Lit.int .i64 k).wf = true := by
    have := DataW.trod_int Try.underlying3 h0
    obtain ⟨k, h1, _, h2⟩ := this
    simp only [List.cons.injEq, and_true] at h1
    exact ⟨k, h1, h2⟩
  exact ⟨k, A, c, l, hk, wf_i64' hw, rfl, hc, hC, hB⟩
/-- records: an int64 and bytes each -/
def Recs (l : List S24) : Prop := ∀ x ∈ l, I64 x.f0 ∧ Bytes x.f1
theorem rec_arg {base : Nat} {v : Value} {d : DataW H} {p : List MemPlace} (hv : Value.okWide Try.prog W .any base 24 v) (h : DataW.Trod enc Try.prog W 0 (fun _ => true) true 24 v d p) :
    ∃ (k : Int) (A : Option Addr) (c : Nat) (l : List Int), v = .agg #[.int .i64 k, .slice A l.length c] ∧ I64 k ∧ l.length ≤ c ∧ Kd.C (Kd.int .u8) W A l.length l ∧ Bytes l := by
  obtain ⟨v0, v1, y0, y1, n, rfl, _, _, h0, h1⟩ := open_agg2 Try.underlying24 (by kernel_rfl) (by kernel_rfl) hv h
  obtain ⟨k, A, c, l, rfl, hk, rfl, hc, hC, hB⟩ := rec_trod h0 h1
  exact ⟨k, A, c, l, rfl, hk, hc, hC, hB⟩
theorem recs_arg {base : Nat} {v : Value} {d : DataW H} {p : List MemPlace} (hv : Value.okWide Try.prog W .any base 35 v) (h : DataW.Trod enc Try.prog W 0 (fun _ => true) true 35 v d p) :
    ∃ (A : Option Addr) (c : Nat) (l : List S24), v = .slice A l.length c ∧ l.length ≤ c ∧ Kd.C k24 W A l.length l ∧ Recs l := by
  obtain ⟨a0, len0, cap0, rfl⟩ := okWide_slice Try.underlying35 hv
  obtain ⟨fuel, hf⟩ := h
  rcases open_slice_pairs Try.underlying35 Try.underlying24 (by kernel_rfl) rfl rfl (by kernel_rfl) (by kernel_rfl) hf with ⟨hcs, hx⟩ | ⟨a, len, cap, m, n, V0, V1, D0, D1, P0, P1, hcs, _, hl, hm, hmm, _, hel⟩
  · simp [Value.cells] at hcs
    obtain ⟨rfl, rfl, rfl⟩ := hcs
    exact ⟨none, 0, [], rfl, Nat.le_refl _, ⟨rfl, by decide, fun h => absurd h (by decide)⟩, fun x hx => by cases hx⟩
  · simp [Value.cells] at hcs
    obtain ⟨rfl, rfl, rfl⟩ := hcs
    simp only [if_true] at hmm
    subst hmm
    have hm' : m ≤ 9223372036854775807 := hm
    obtain ⟨f, hf2⟩ := choose_lt (α := Int × Option Addr × Nat × List Int) (p := fun i q => V0 i = .int .i64 q.1 ∧ I64 q.1 ∧ V1 i = .slice q.2.1 q.2.2.2.length q.2.2.1 ∧ q.2.2.2.length ≤ q.2.2.1 ∧ Kd.C (Kd.int .u8) W q.2.1 q.2.2.2.length q.2.2.2 ∧ Bytes q.2.2.2) (n := m) (fun i hi => by
      obtain ⟨_, _, h0, h1⟩ := hel i hi
      obtain ⟨k, A, c, l, e0, hk, e1, hc, hC, hB⟩ := rec_trod h0 h1
      exact ⟨(k, A, c, l), e0, hk, e1, hc, hC, hB⟩)
    have hlen : ((List.range len0).map fun i => (⟨(f i).1, (f i).2.2.2⟩ : S24)).length = len0 := by simp
    refine ⟨some a, m, (List.range len0).map fun i => (⟨(f i).1, (f i).2.2.2⟩ : S24), by rw [hlen], by omega, ⟨rfl, by omega, fun hn => ⟨a, rfl, fun j p hj => ?_⟩⟩, fun x hx => ?_⟩
    · rw [List.getElem?_map] at hj
      have hjl : j < len0 := by
        rcases Nat.lt_or_ge j len0 with h | h
        · exact h
        · rw [List.getElem?_eq_none (by simpa using h)] at hj; cases hj
      rw [List.getElem?_range hjl] at hj
      simp only [Option.map_some, Option.some.injEq] at hj
      subst hj
      obtain ⟨e0, _, e1, hc, hC, _⟩ := hf2 j (by omega)
      obtain ⟨g0, g1, _, _⟩ := hel j (by omega)
      refine ⟨[.int .i64 (f j).1, .slice (f j).2.1 (f j).2.2.2.length (f j).2.2.1], rfl, k24_mk W _ hc hC, fun i u hi => ?_⟩
      match i, hi with
      | 0, hi => simp only [List.getElem?_cons_zero, Option.some.injEq] at hi; subst hi; rw [show k24.sz = 2 from rfl, Nat.add_zero, g0, e0]
      | 1, hi => simp only [List.getElem?_cons_succ, List.getElem?_cons_zero, Option.some.injEq] at hi; subst hi; rw [show k24.sz = 2 from rfl, g1, e1]
      | i + 2, hi => simp at hi
    · obtain ⟨i, hi, rfl⟩ := List.mem_map.1 hx
      obtain ⟨_, hk, _, _, _, hB⟩ := hf2 i (by have := List.mem_range.1 hi; omega)
      exact ⟨hk, hB⟩
theorem rows_arg {base : Nat} {v : Value} {d : DataW H} {p : List MemPlace} (hv : Value.okWide Try.prog W .any base 50 v) (h : DataW.Trod enc Try.prog W 0 (fun _ => true) true 50 v d p) :
    ∃ (A : Option Addr) (c : Nat) (l : List (List Int)), v = .slice A l.length c ∧ l.length ≤ c ∧ Kd.C (Kd.slice 5 (Kd.int .u8)) W A l.length l ∧ (∀ x ∈ l, Bytes x) := by
  obtain ⟨a0, len0, cap0, rfl⟩ := okWide_slice Try.underlying50 hv
  obtain ⟨fuel, hf⟩ := h
  rcases open_slice1 Try.underlying50 (by kernel_rfl) hf with ⟨hcs, hx⟩ | ⟨a, len, cap, m, n, V, D, Pl, hcs, _, hl, hm, hmm, _, hel⟩
  · simp [Value.cells] at hcs
    obtain ⟨rfl, rfl, rfl⟩ := hcs
    exact ⟨none, 0, [], rfl, Nat.le_refl _, ⟨rfl, by decide, fun h => absurd h (by decide)⟩, fun x hx => by cases hx⟩
  · simp [Value.cells] at hcs
    obtain ⟨rfl, rfl, rfl⟩ := hcs
    simp only [if_true] at hmm
    subst hmm
    have hm' : m ≤ 9223372036854775807 := hm
    obtain ⟨f, hf2⟩ := choose_lt (α := Option Addr × Nat × List Int) (p := fun i q => V i = .slice q.1 q.2.2.length q.2.1 ∧ q.2.2.length ≤ q.2.1 ∧ Kd.C (Kd.int .u8) W q.1 q.2.2.length q.2.2 ∧ Bytes q.2.2) (n := m) (fun i hi => by
      obtain ⟨_, h1⟩ := hel i hi
      obtain ⟨A, c, l, e1, hc, hC, hB⟩ := bytes_trod (trod_slice_form h1) h1
      exact ⟨(A, c, l), e1, hc, hC, hB⟩)
    have hlen : ((List.range len0).map fun i => (f i).2.2).length = len0 := by simp
    refine ⟨some a, m, (List.range len0).map fun i => (f i).2.2, by rw [hlen], by omega, ⟨rfl, by omega, fun hn => ⟨a, rfl, fun j p hj => ?_⟩⟩, fun x hx => ?_⟩
    · rw [List.getElem?_map] at hj
      have hjl : j < len0 := by
        rcases Nat.lt_or_ge j len0 with h | h
        · exact h
        · rw [List.getElem?_eq_none (by simpa using h)] at hj; cases hj
      rw [List.getElem?_range hjl] at hj
      simp only [Option.map_some, Option.some.injEq] at hj
      subst hj
      obtain ⟨e1, hc, hC, _⟩ := hf2 j (by omega)
      obtain ⟨g0, _⟩ := hel j (by omega)
      refine ⟨[.slice (f j).1 (f j).2.2.length (f j).2.1], rfl, ⟨_, _, rfl, hc, hC⟩, fun i u hi => ?_⟩
      match i, hi with
      | 0, hi => simp only [List.getElem?_cons_zero, Option.some.injEq] at hi; subst hi; rw [show (Kd.slice 5 (Kd.int .u8)).sz = 1 from rfl, Nat.add_zero, Nat.mul_one, g0, e1]
      | i + 1, hi => simp at hi
    · obtain ⟨i, hi, rfl⟩ := List.mem_map.1 hx
      obtain ⟨_, _, _, hB⟩ := hf2 i (by have := List.mem_range.1 hi; omega)
      exact hB
theorem bools_arg {base : Nat} {v : Value} {d : DataW H} {p : List MemPlace} (hv : Value.okWide Try.prog W .any base 51 v) (h : DataW.Trod enc Try.prog W 0 (fun _ => true) true 51 v d p) :
    ∃ (A : Option Addr) (c : Nat) (l : List Bool), v = .slice A l.length c ∧ l.length ≤ c ∧ Kd.C Kd.bool W A l.length l := by
  obtain ⟨a0, len0, cap0, rfl⟩ := okWide_slice Try.underlying51 hv
  obtain ⟨fuel, hf⟩ := h
  rcases open_slice1 Try.underlying51 (by kernel_rfl) hf with ⟨hcs, hx⟩ | ⟨a, len, cap, m, n, V, D, Pl, hcs, _, hl, hm, hmm, _, hel⟩
  · simp [Value.cells] at hcs
    obtain ⟨rfl, rfl, rfl⟩ := hcs
    exact ⟨none, 0, [], rfl, Nat.le_refl _, ⟨rfl, by decide, fun h => absurd h (by decide)⟩⟩
  · simp [Value.cells] at hcs
    obtain ⟨rfl, rfl, rfl⟩ := hcs
    simp only [if_true] at hmm
    subst hmm
    have hm' : m ≤ 9223372036854775807 := hm
    obtain ⟨f, hf2⟩ := choose_lt (α := Bool) (p := fun i q => V i = .bool q) (n := m) (fun i hi => by
      obtain ⟨_, h1⟩ := hel i hi
      obtain ⟨b, h2, _⟩ := DataW.trod_bool Try.underlying4 h1
      simp only [List.cons.injEq, and_true] at h2
      exact ⟨b, h2⟩)
    have hlen : ((List.range len0).map f).length = len0 := by simp
    refine ⟨some a, m, (List.range len0).map f, by rw [hlen], by omega, ⟨rfl, by omega, fun hn => ⟨a, rfl, fun j p hj => ?_⟩⟩⟩
    rw [List.getElem?_map] at hj
    have hjl : j < len0 := by
      rcases Nat.lt_or_ge j len0 with h | h
      · exact h
      · rw [List.getElem?_eq_none (by simpa using h)] at hj; cases hj
    rw [List.getElem?_range hjl] at hj
    simp only [Option.map_some, Option.some.injEq] at hj
    subst hj
    obtain ⟨g0, _⟩ := hel j (by omega)
    refine ⟨[.bool (f j)], rfl, rfl, fun i u hi => ?_⟩
    match i, hi with
    | 0, hi => simp only [List.getElem?_cons_zero, Option.some.injEq] at hi; subst hi; rw [show Kd.bool.sz = 1 from rfl, Nat.add_zero, Nat.mul_one, g0, hf2 j (by omega)]
    | i + 1, hi => simp at hi
end Go.Proofs.Ytmcdpgopjfpjeaa.Args
