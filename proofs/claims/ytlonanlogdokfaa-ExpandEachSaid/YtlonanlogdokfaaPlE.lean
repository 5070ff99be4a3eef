/- The law of one rule among others: it fires in a year at most once, just if it lasts and its day can be. -/
import Derived.Test.YtlonanlogdokfaaPlD
import Derived.Test.YtlonanlogdokfaaS14
namespace Go.Proofs.Ytlonanlogdokfaa.S
open Go.RowKit Go.Proofs.Ytlonanlogdokfaa.Facts
open Go.Proofs.YtlonanlogdokfaaW.PrintWords Go.Proofs.YtlonanlogdokfaaW.PrintLast Go.Proofs.YtlonanlogdokfaaW.PrintMore
set_option linter.unusedVariables false
set_option linter.unusedSimpArgs false
theorem SF_one (r : S42) (y : Int) : SF [r] y y = match fireE r y with | some t => [(⟨0, y, t, 0⟩ : S36)] | none => [] := by
  refine uniqE _ _ (SF_pw _ _ _) ?_ fun f => ?_
  · cases fireE r y <;> simp
  · rw [SF_mem]
    constructor
    · rintro ⟨j, hj, x, t, h1, h2, h3, rfl⟩
      have hj0 : j = 0 := by simpa using hj
      subst hj0
      have hx : x = y := by omega
      subst hx
      have h3' : fireE r x = some t := h3
      rw [h3']
      simp
    · intro h
      cases hf : fireE r y with
      | none => rw [hf] at h; simp at h
      | some t =>
        rw [hf] at h
        simp only [List.mem_singleton] at h
        exact ⟨0, by simp, y, t, Int.le_refl _, Int.le_refl _, hf, h⟩
/-- how many fires are of rule i -/
def ctE (i : Int) (l : List S36) : Nat := (l.filter fun f => f.f0 == i).length
theorem ctE_cons (i : Int) (f : S36) (l : List S36) : ctE i (f :: l) = (if f.f0 = i then 1 else 0) + ctE i l := by
  unfold ctE
  rw [List.filter_cons]
  by_cases h : f.f0 = i
  · rw [if_pos (by simpa using h), if_pos h, List.length_cons]; omega
  · rw [if_neg (by simpa using h), if_neg h]; omega
theorem ct_chain (l : List S42) (i : Int) : ∀ (fs : List S36) (s : Int), ctE i (chainE l s fs) = ctE i fs := by
  intro fs
  induction fs with
  | nil => intro s; rfl
  | cons f fs ih =>
    intro s
    unfold chainE
    rw [ctE_cons, ctE_cons, ih]
theorem chain_mem (l : List S42) : ∀ (fs : List S36) (s : Int) (f : S36), f ∈ chainE l s fs → ∃ g ∈ fs, f.f0 = g.f0 ∧ f.f1 = g.f1 ∧ f.f2 = g.f2 := by
  intro fs
  induction fs with
  | nil => intro s f h; simp [chainE] at h
  | cons g fs ih =>
    intro s f h
    unfold chainE at h
    rcases List.mem_cons.1 h with e | e
    · subst e; exact ⟨g, by simp, rfl, rfl, rfl⟩
    · obtain ⟨g', h1, h2⟩ := ih _ f e
      exact ⟨g', by simp [h1], h2⟩
theorem all_one {α : Type} (v : α) (l : List α) (hn : l.Nodup) (ha : ∀ x ∈ l, x = v) (hv : v ∈ l) : l.length = 1 := by
  match l, hn, ha, hv with
  | [], _, _, hv => simp at hv
  | [a], _, _, _ => rfl
  | a :: b :: t, hn, ha, _ =>
    have h1 := ha a (by simp)
    have h2 := ha b (by simp)
    rw [List.nodup_cons] at hn
    exact absurd (by rw [h1, h2]; simp) hn.1
theorem SF_nodup (l : List S42) (a b : Int) : (SF l a b).Nodup := (sortE_perm (FE l a b)).nodup_iff.2 (FE_nodup l a b)
theorem ct_SF (l : List S42) (y : Int) (i : Nat) (hi : i < l.length) : ctE (i : Int) (SF l y y) = (SF [rd_T42 l (i : Int)] y y).length := by
  rw [SF_one]
  have hmem : ∀ f, f ∈ (SF l y y).filter (fun f => f.f0 == (i : Int)) → ∃ t, fireE (rd_T42 l (i : Int)) y = some t ∧ f = ⟨(i : Int), y, t, 0⟩ := by
    intro f hf
    rw [List.mem_filter, SF_mem] at hf
    obtain ⟨⟨j, hj, x, t, h1, h2, h3, rfl⟩, h4⟩ := hf
    have e1 : (j : Int) = (i : Int) := by simpa using h4
    have e2 : x = y := by omega
    rw [e1, e2] at h3
    exact ⟨t, h3, by rw [e1, e2]⟩
  unfold ctE
  cases hf : fireE (rd_T42 l (i : Int)) y with
  | some t =>
    refine all_one (⟨(i : Int), y, t, 0⟩ : S36) _ ((SF_nodup l y y).filter _) (fun x hx => ?_) ?_
    · obtain ⟨t', h1, h2⟩ := hmem x hx
      rw [hf] at h1
      simp only [Option.some.injEq] at h1
      rw [h2, h1]
    · rw [List.mem_filter, SF_mem]
      exact ⟨⟨i, hi, y, t, Int.le_refl _, Int.le_refl _, hf, rfl⟩, by simp⟩
  | none =>
    rw [List.length_eq_zero_iff.2 (List.eq_nil_iff_forall_not_mem.2 fun f hx => by obtain ⟨t', h1, _⟩ := hmem f hx; rw [hf] at h1; simp at h1)]
    rfl
theorem each_l0 (l : List S42) (hl : l.length ≤ 8) (i : Nat) (hi : i < l.length) (y : Int) (F G : List S36) (hF : F.length ≤ 1000) (N : Nat) (hN : (N : Int) = (G.length : Int)) (hN1 : N ≤ 1)
    (hy : N = 0 ∨ ((rd_T42 l (i : Int)).f1 ≤ y ∧ y ≤ (rd_T42 l (i : Int)).f2)) : ∀ (todo done : List S36) (k c : Nat), F = done ++ todo → (∀ f ∈ todo, f.f0 = (i : Int) → G.length = 1 ∧ (rd_T36 G 0).f2 = f.f2 ∧ (rd_T36 G 0).f0 = 0) → c + ctE (i : Int) todo = N →
    noonmarklaw14_ExpandEach.l0 (k + todo.length + 1) l (i : Int) y F G (c : Int) (done.length : Int) = some true := by
  intro todo
  induction todo with
  | nil =>
    intro done k c h1 h2 h3
    have hc : c = N := by simpa [ctE] using h3
    have hd : done.length = F.length := by rw [h1]; simp
    rw [noonmarklaw14_ExpandEach.l0, if_neg (by omega), hc, if_pos hN, if_pos (by omega)]
    by_cases h0 : (N : Int) = 0
    · rw [if_pos h0]; rfl
    · rw [if_neg h0, if_pos (by omega), if_pos (by omega), if_pos (by omega), if_pos (by omega)]; rfl
  | cons f fs ih =>
    intro done k c h1 h2 h3
    have hd : done.length + (fs.length + 1) = F.length := by rw [h1]; simp
    have hrd : rd_T36 F (done.length : Int) = f := by
      rw [h1]
      unfold rd_T36
      rw [Int.toNat_natCast, List.getD_eq_getElem?_getD, List.getElem?_append_right (Nat.le_refl _), Nat.sub_self]
      rfl
    rw [ctE_cons] at h3
    have hw : wrap64 ((done.length : Int) + 1) = ((done ++ [f]).length : Int) := by
      rw [w64 (by omega) (by omega)]; simp
    rw [show k + (f :: fs).length + 1 = (k + fs.length + 1) + 1 by simp; omega, noonmarklaw14_ExpandEach.l0, if_pos (by omega), if_pos (by omega), hrd, hw]
    by_cases hc : f.f0 = (i : Int)
    · obtain ⟨g1, g2, g3⟩ := h2 f (by simp) hc
      rw [if_pos hc] at h3
      have hw2 : wrap64 ((c : Int) + 1) = ((c + 1 : Nat) : Int) := by rw [w64 (by omega) (by omega)]; rfl
      rw [if_pos hc, if_pos (by omega), if_pos (by omega), if_pos g2, if_pos g3, hw2]
      exact ih (done ++ [f]) k (c + 1) (by rw [h1]; simp) (fun g hg => h2 g (by simp [hg])) (by omega)
    · rw [if_neg hc] at h3
      rw [if_neg hc]
      exact ih (done ++ [f]) k c (by rw [h1]; simp) (fun g hg => h2 g (by simp [hg])) (by omega)
theorem cut_one (l : List S42) (i : Nat) (hi : i < l.length) : (l.take (i + 1)).drop i = [rd_T42 l (i : Int)] := by
  apply List.ext_getElem?
  intro n
  rw [List.getElem?_drop]
  cases n with
  | zero =>
    rw [List.getElem?_take_of_lt (by omega), Nat.add_zero]
    unfold rd_T42
    rw [Int.toNat_natCast, List.getD_eq_getElem?_getD, List.getElem?_eq_getElem hi]
    rfl
  | succ n => rw [List.getElem?_take_eq_none (by omega)]; simp
theorem each_j0 (l : List S42) (hl : lightL l) (i : Nat) (hi : i < l.length) (y : Int) (h1 : 1 ≤ y) (h2 : y ≤ 9999) : noonmarklaw14_ExpandEach.j0 3001 l (i : Int) y false = some true := by
  have h8 := hl.1
  have hw : wrap64 ((i : Int) + 1) = ((i + 1 : Nat) : Int) := by rw [w64 (by omega) (by omega)]; rfl
  have hl1 : lightL [rd_T42 l (i : Int)] := ⟨by simp, fun j hj => by
    have hj0 : j = 0 := by simpa using hj
    subst hj0
    exact hl.2 i hi⟩
  rw [noonmarklaw14_ExpandEach.j0, if_neg (by decide), year_ev 3000 (by decide) l hl y ⟨by omega, by omega⟩, Option.bind_some, if_pos (by omega), hw, if_pos (by omega), if_pos (by omega),
    Int.toNat_natCast, Int.toNat_natCast, cut_one l i hi, year_ev 3000 (by decide) _ hl1 y ⟨by omega, by omega⟩, Option.bind_some]
  have n1 := FromE_len l h8 y y (by omega)
  have e1 : mx y 1 = y := by rw [mx_eq]; omega
  have e2 : mn y 9999 = y := by rw [mn_eq]; omega
  have hG : FromE [rd_T42 l (i : Int)] y y = chainE [rd_T42 l (i : Int)] (savedE [rd_T42 l (i : Int)] y) (SF [rd_T42 l (i : Int)] y y) := by unfold FromE; rw [e1, e2]
  have hF : FromE l y y = chainE l (savedE l y) (SF l y y) := by unfold FromE; rw [e1, e2]
  have hct : ctE (i : Int) (FromE l y y) = (FromE [rd_T42 l (i : Int)] y y).length := by rw [hF, hG, ct_chain, chainE_len, ct_SF l y i hi]
  have hlen : (SF [rd_T42 l (i : Int)] y y).length ≤ 1 := by rw [SF_one]; cases fireE (rd_T42 l (i : Int)) y <;> simp
  obtain ⟨k, hk⟩ : ∃ k, 3000 = k + (FromE l y y).length + 1 := ⟨3000 - (FromE l y y).length - 1, by omega⟩
  rw [hk]
  refine each_l0 l h8 i hi y (FromE l y y) (FromE [rd_T42 l (i : Int)] y y) (by omega) (FromE [rd_T42 l (i : Int)] y y).length rfl (by rw [hG, chainE_len]; exact hlen) ?_ (FromE l y y) [] k 0 rfl ?_ (by omega)
  · rw [hG, chainE_len, SF_one]
    cases hf : fireE (rd_T42 l (i : Int)) y with
    | none => exact .inl rfl
    | some t => have := fireE_in' hf; exact .inr ⟨by omega, by omega⟩
  · intro f hf hfi
    rw [hF] at hf
    obtain ⟨g, hg, e3, e4, e5⟩ := chain_mem l _ _ f hf
    obtain ⟨j, hj, x, t, h3, h4, h5, rfl⟩ := (SF_mem l y y g).1 hg
    have e6 : (j : Int) = (i : Int) := by rw [← hfi, e3]
    have e7 : x = y := by omega
    rw [e6, e7] at h5
    have hS : SF [rd_T42 l (i : Int)] y y = [⟨0, y, t, 0⟩] := by rw [SF_one, h5]
    rw [hG, hS]
    exact ⟨rfl, by rw [e5]; rfl, rfl⟩
theorem each_ev (l : List S42) (a y : Int) : noonmarklaw14_ExpandEach.f 3001 l a y = some true := by
  have out : noonmarklaw14_ExpandEach.j0 3001 l a y true = some true := by
    rw [noonmarklaw14_ExpandEach.j0, if_pos rfl]; rfl
  unfold noonmarklaw14_ExpandEach.f
  obtain ⟨x, hx, hL⟩ := light_ev l 3001 (by decide)
  rw [hx, Option.bind_some]
  cases x with
  | false => rw [if_neg (by decide)]; exact out
  | true =>
    rw [if_pos rfl]
    by_cases c1 : a < 0
    · rw [if_pos c1]; exact out
    by_cases c2 : a ≥ (l.length : Int)
    · rw [if_neg c1, if_pos c2]; exact out
    by_cases c3 : y < 1
    · rw [if_neg c1, if_neg c2, if_pos c3]; exact out
    rw [if_neg c1, if_neg c2, if_neg c3]
    by_cases c5 : y > 9999
    · rw [decide_eq_true c5]; exact out
    · rw [decide_eq_false c5]
      obtain ⟨i, rfl⟩ : ∃ i : Nat, a = (i : Int) := ⟨a.toNat, by omega⟩
      exact each_j0 l (hL rfl) i (by omega) y (by omega) (by omega)
theorem expandEach_any (A0 : Option Addr) (c0 : Nat) (l0 : List S42) (a1 a2 : Int) (w : World) (hc : l0.length ≤ c0) (hC : Kd.C k42 w A0 l0.length l0) :
    Calls Try.prog 6 #[.slice A0 l0.length c0, .int .i64 a1, .int .i64 a2] w fun e w' => e = .returned (.bool true) ∧ Below w.heap.size w w' :=
  noonmarklaw14_ExpandEach.calls 3001 A0 c0 l0 a1 a2 true w hC hc (each_ev l0 a1 a2)
end Go.Proofs.Ytlonanlogdokfaa.S
