/- The law that fires rise, are of rules that last, and that each has the saving of the one ahead. -/
import Derived.Test.YtlonanlogdokfaaPlD
import Derived.Test.YtlonanlogdokfaaSO
namespace Go.Proofs.Ytlonanlogdokfaa.S
open Go.RowKit Go.Proofs.Ytlonanlogdokfaa.Facts
open Go.Proofs.YtlonanlogdokfaaW.PrintWords Go.Proofs.YtlonanlogdokfaaW.PrintLast Go.Proofs.YtlonanlogdokfaaW.PrintMore
set_option linter.unusedVariables false
set_option linter.unusedSimpArgs false
theorem chain_memO (l : List S42) : ∀ (fs : List S36) (s : Int) (f : S36), f ∈ chainE l s fs → ∃ g ∈ fs, f.f0 = g.f0 ∧ f.f1 = g.f1 ∧ f.f2 = g.f2 := by
  intro fs
  induction fs with
  | nil => intro s f h; simp [chainE] at h
  | cons g fs ih =>
    intro s f h
    unfold chainE at h
    rcases List.mem_cons.1 h with e | e
    · subst e; exact ⟨g, by simp, rfl, rfl, rfl⟩
    · obtain ⟨g', h1, h2⟩ := ih _ f e
      exact ⟨g', by simp [h1], h2⟩
theorem chain_pw (l : List S42) : ∀ (fs : List S36) (s : Int), fs.Pairwise LT → (chainE l s fs).Pairwise LT := by
  intro fs
  induction fs with
  | nil => intro s _; simp [chainE]
  | cons f fs ih =>
    intro s h
    rw [List.pairwise_cons] at h
    unfold chainE
    rw [List.pairwise_cons]
    refine ⟨fun g hg => ?_, ih _ h.2⟩
    obtain ⟨g', h1, h2, h3, h4⟩ := chain_memO l fs _ g hg
    have h5 := h.1 g' h1
    rw [LT_iff] at h5 ⊢
    dsimp only
    omega
theorem chain_next (l : List S42) : ∀ (fs : List S36) (s : Int) (i : Nat), i + 1 < fs.length → (rd_T36 (chainE l s fs) ((i + 1 : Nat) : Int)).f3 = (rd_T42 l (rd_T36 (chainE l s fs) (i : Int)).f0).f6 := by
  intro fs
  induction fs with
  | nil => intro s i h; simp at h
  | cons f fs ih =>
    intro s i h
    simp only [List.length_cons] at h
    have hsh : ∀ (n : Nat), rd_T36 (chainE l s (f :: fs)) ((n + 1 : Nat) : Int) = rd_T36 (chainE l ((rd_T42 l f.f0).f6) fs) (n : Int) := by
      intro n
      unfold rd_T36
      rw [Int.toNat_natCast, Int.toNat_natCast]
      rfl
    rw [hsh]
    cases i with
    | zero =>
      cases fs with
      | nil => simp at h
      | cons g gs => rfl
    | succ i =>
      rw [hsh]
      exact ih _ i (by omega)
theorem rd_mem (F : List S36) (i : Nat) (h : i < F.length) : rd_T36 F (i : Int) ∈ F ∧ rd_T36 F (i : Int) = F[i] := by
  unfold rd_T36
  rw [Int.toNat_natCast, List.getD_eq_getElem?_getD, List.getElem?_eq_getElem h]
  exact ⟨List.getElem_mem h, rfl⟩
theorem order_l0 (l : List S42) (a b : Int) (F : List S36) (hF : F.length ≤ 1000) (h8 : ∀ i : Nat, i < F.length → g8E l a b (rd_T36 F (i : Int)) = true) (h12 : ∀ i : Nat, i + 1 < F.length → g12E l (rd_T36 F (i : Int)) (rd_T36 F ((i + 1 : Nat) : Int)) = true) :
    ∀ (m i k : Nat), i + m = F.length → m + 1 ≤ k → noonmarklaw14_ExpandOrder.l0 k l a b F (i : Int) = some true := by
  intro m
  induction m with
  | zero =>
    intro i k h1 h2
    obtain ⟨k, rfl⟩ : ∃ j, k = j + 1 := ⟨k - 1, by omega⟩
    rw [noonmarklaw14_ExpandOrder.l0, if_neg (by omega)]
    rfl
  | succ m ih =>
    intro i k h1 h2
    obtain ⟨k, rfl⟩ : ∃ j, k = j + 1 := ⟨k - 1, by omega⟩
    have hw : wrap64 ((i : Int) + 1) = ((i + 1 : Nat) : Int) := by rw [w64 (by omega) (by omega)]; rfl
    have hn := ih (i + 1) k (by omega) (by omega)
    rw [noonmarklaw14_ExpandOrder.l0, if_pos (by omega), if_pos (by omega), if_pos (h8 i (by omega)), hw]
    cases i with
    | zero => rw [if_neg (by decide)]; exact hn
    | succ i =>
      have hw2 : wrap64 (((i + 1 : Nat) : Int) - 1) = (i : Int) := by rw [w64 (by omega) (by omega)]; omega
      rw [if_pos (by omega), hw2, if_pos (by omega), if_pos (by omega), if_pos (h12 i (by omega))]
      exact hn
theorem order_j0 (l : List S42) (hl : lightL l) (a b : Int) (h0 : 1 ≤ a) (h1 : b ≤ 9999) (h2 : a ≤ b) (h4 : b - a ≤ 30) : noonmarklaw14_ExpandOrder.j0 3001 l a b false = some true := by
  have hl8 := hl.1
  have n1 := FromE_len l hl8 a b (by omega)
  have e1 : mx a 1 = a := by rw [mx_eq]; omega
  have e2 : mn b 9999 = b := by rw [mn_eq]; omega
  have hF : FromE l a b = chainE l (savedE l a) (SF l a b) := by unfold FromE; rw [e1, e2]
  rw [noonmarklaw14_ExpandOrder.j0, if_neg (by decide), from_ev 3000 (by decide) l hl a b ⟨by omega, by omega⟩ (by omega), Option.bind_some]
  have hin : ∀ f, f ∈ FromE l a b → 0 ≤ f.f0 ∧ f.f0 < (l.length : Int) ∧ a ≤ f.f1 ∧ f.f1 ≤ b ∧ (rd_T42 l f.f0).f1 ≤ f.f1 ∧ f.f1 ≤ (rd_T42 l f.f0).f2 := by
    intro f hf
    rw [hF] at hf
    obtain ⟨g, hg, e3, e4, e5⟩ := chain_memO l _ _ f hf
    obtain ⟨j, hj, x, t, h5, h6, h7, rfl⟩ := (SF_mem l a b g).1 hg
    have h9 := fireE_in' h7
    dsimp only at e3 e4
    rw [e3, e4]
    exact ⟨by omega, by omega, h5, h6, by omega, by omega⟩
  have hpw : (FromE l a b).Pairwise LT := by rw [hF]; exact chain_pw l _ _ (SF_pw l a b)
  refine order_l0 l a b (FromE l a b) (by omega) (fun i hi => ?_) (fun i hi => ?_) (FromE l a b).length 0 3000 (by omega) (by omega)
  · unfold g8E
    rw [decide_eq_true_eq]
    exact hin _ (rd_mem _ i hi).1
  · unfold g12E
    rw [decide_eq_true_eq]
    have h5 := hin _ (rd_mem (FromE l a b) i (by omega)).1
    have h6 := (List.pairwise_iff_getElem.1 hpw) i (i + 1) (by omega) hi (by omega)
    rw [← (rd_mem (FromE l a b) i (by omega)).2, ← (rd_mem (FromE l a b) (i + 1) hi).2, LT_iff] at h6
    refine ⟨h5.1, h5.2.1, ?_, h6⟩
    rw [hF] at hi ⊢
    rw [chainE_len] at hi
    exact chain_next l (SF l a b) (savedE l a) i hi
theorem order_law (l : List S42) (a b : Int) : noonmarklaw14_ExpandOrder.f 3001 l a b = some true := by
  have out : noonmarklaw14_ExpandOrder.j0 3001 l a b true = some true := by
    rw [noonmarklaw14_ExpandOrder.j0, if_pos rfl]; rfl
  unfold noonmarklaw14_ExpandOrder.f
  obtain ⟨x, hx, hL⟩ := light_ev l 3001 (by decide)
  rw [hx, Option.bind_some]
  cases x with
  | false => rw [if_neg (by decide)]; exact out
  | true =>
    rw [if_pos rfl]
    by_cases c1 : a < 1
    · rw [if_pos c1]; exact out
    by_cases c2 : b > 9999
    · rw [if_neg c1, if_pos c2]; exact out
    by_cases c3 : b < a
    · rw [if_neg c1, if_neg c2, if_pos c3]; exact out
    rw [if_neg c1, if_neg c2, if_neg c3]
    have hw : wrap64 (b - a) = b - a := w64 (by omega) (by omega)
    rw [hw]
    by_cases c5 : b - a > 30
    · rw [decide_eq_true c5]; exact out
    · rw [decide_eq_false c5]
      exact order_j0 l (hL rfl) a b (by omega) (by omega) (by omega) (by omega)
theorem expandOrder_any (A0 : Option Addr) (c0 : Nat) (l0 : List S42) (a1 a2 : Int) (w : World) (hc : l0.length ≤ c0) (hC : Kd.C k42 w A0 l0.length l0) :
    Calls Try.prog 5 #[.slice A0 l0.length c0, .int .i64 a1, .int .i64 a2] w fun e w' => e = .returned (.bool true) ∧ Below w.heap.size w w' :=
  noonmarklaw14_ExpandOrder.calls 3001 A0 c0 l0 a1 a2 true w hC hc (order_law l0 a1 a2)
end Go.Proofs.Ytlonanlogdokfaa.S
