/- The law of the fires of any rules in any years: the reference's From is expand's. -/
import Derived.Test.YtlonanlogdokfaaPlR
import Derived.Test.YtlonanlogdokfaaSY
namespace Go.Proofs.Ytlonanlogdokfaa.S
open Go.RowKit Go.Proofs.Ytlonanlogdokfaa.Facts Go.Proofs.Ytlonanlogdokfaa.Cal
open Go.Proofs.YtlonanlogdokfaaW.PrintWords Go.Proofs.YtlonanlogdokfaaW.PrintLast Go.Proofs.YtlonanlogdokfaaW.PrintMore
set_option linter.unusedVariables false
set_option linter.unusedSimpArgs false
/-- the least first year of n rules -/
def leastE (l : List S42) : Nat → Int
  | 0 => 10000
  | n + 1 => mn (leastE l n) (mx ((rd_T42 l (n : Int)).f1) 1)
theorem least_le (l : List S42) : ∀ n j : Nat, j < n → leastE l n ≤ firstE (rd_T42 l (j : Int)) := by
  intro n
  induction n with
  | zero => intro j h; omega
  | succ n ih =>
    intro j h
    unfold leastE
    rw [mn_eq]
    by_cases e : j = n
    · subst e; unfold firstE; omega
    · have := ih j (by omega); omega
theorem least_bd (l : List S42) : ∀ n, 1 ≤ leastE l n ∧ leastE l n ≤ 10000 := by
  intro n
  induction n with
  | zero => unfold leastE; omega
  | succ n ih => unfold leastE; rw [mn_eq, mx_eq]; omega
theorem least_l0 (l : List S42) (h8 : l.length ≤ 8) : ∀ (m i k : Nat), i + m = l.length → m + 1 ≤ k → noonmarkref14_least.l0 k l (leastE l i) (i : Int) = some (leastE l l.length) := by
  intro m
  induction m with
  | zero =>
    intro i k h1 h2
    obtain ⟨k, rfl⟩ : ∃ j, k = j + 1 := ⟨k - 1, by omega⟩
    rw [noonmarkref14_least.l0, if_neg (by omega), show i = l.length by omega]
  | succ m ih =>
    intro i k h1 h2
    obtain ⟨k, rfl⟩ : ∃ j, k = j + 1 := ⟨k - 1, by omega⟩
    have hw : wrap64 ((i : Int) + 1) = ((i + 1 : Nat) : Int) := by rw [w64 (by omega) (by omega)]; rfl
    rw [noonmarkref14_least.l0, if_pos (by omega), if_pos (by omega), hw]
    exact ih (i + 1) k (by omega) (by omega)
theorem least_ev (k : Nat) (hk : 10 ≤ k) (l : List S42) (h8 : l.length ≤ 8) : noonmarkref14_least.f k l = some (leastE l l.length) :=
  least_l0 l h8 l.length 0 k (by omega) (by omega)
theorem span_l0 (l : List S42) (hl : lightL l) : ∀ (m i k : Nat) (fi la : Int) (en : Bool), i + m = l.length → m + 1 ≤ k → -20000 ≤ la → la ≤ 20000 → (en = false → ∀ j : Nat, j < i → (rd_T42 l (j : Int)).f2 ≤ la) →
    ∃ fi' la' en', noonmarkref14_Span.l0 k l fi la en (i : Int) = some (fi', la', en') ∧ -20000 ≤ la' ∧ la' ≤ 20000 ∧ (en' = false → ∀ j : Nat, j < l.length → (rd_T42 l (j : Int)).f2 ≤ la') := by
  have h8 := hl.1
  intro m
  induction m with
  | zero =>
    intro i k fi la en h1 h2 h3 h4 h5
    obtain ⟨k, rfl⟩ : ∃ j, k = j + 1 := ⟨k - 1, by omega⟩
    rw [noonmarkref14_Span.l0, if_neg (by omega)]
    exact ⟨fi, la, en, rfl, h3, h4, fun e j hj => h5 e j (by omega)⟩
  | succ m ih =>
    intro i k fi la en h1 h2 h3 h4 h5
    obtain ⟨k, rfl⟩ : ∃ j, k = j + 1 := ⟨k - 1, by omega⟩
    have e0 : i < l.length := by omega
    have hr := hl.2 i e0
    have r1 := hr.2.2.2.2.2.1
    have r2 := hr.2.2.2.2.2.2.1
    have r3 := hr.2.2.2.2.2.2.2.1
    have r4 := hr.2.2.2.2.2.2.2.2
    clear hr
    have hw : wrap64 ((i : Int) + 1) = ((i + 1 : Nat) : Int) := by rw [w64 (by omega) (by omega)]; rfl
    have e1 : (i : Int) < (l.length : Int) := Int.ofNat_lt.2 e0
    have e2 : (0 : Int) ≤ (i : Int) := Int.natCast_nonneg i
    have e3 : i + 1 + m = l.length := by omega
    have e4 : m + 1 ≤ k := by omega
    have hstep : en = false → ∀ la2, la ≤ la2 → (rd_T42 l (i : Int)).f2 ≤ la2 → ∀ j : Nat, j < i + 1 → (rd_T42 l (j : Int)).f2 ≤ la2 := by
      intro e la2 h6 h7 j hj
      by_cases e2 : j = i
      · subst e2; exact h7
      · exact Int.le_trans (h5 e j (by omega)) h6
    clear h5
    rw [noonmarkref14_Span.l0]
    simp only [if_pos e1, if_pos e2, hw]
    generalize (rd_T42 l (i : Int)).f1 = p1 at r1 r2 ⊢
    generalize (rd_T42 l (i : Int)).f2 = p2 at r3 r4 hstep ⊢
    by_cases c : p2 = 10000
    · rw [if_pos c]
      refine ih (i + 1) k _ _ true e3 e4 (by rw [mx_eq]; omega) (by rw [mx_eq]; omega) (fun e => by simp at e)
    · rw [if_neg c]
      exact ih (i + 1) k _ _ en e3 e4 (by rw [mx_eq]; omega) (by rw [mx_eq]; omega) (fun e => hstep e _ (by rw [mx_eq]; omega) (by rw [mx_eq]; omega))
theorem span_ev (k : Nat) (hk : 10 ≤ k) (l : List S42) (hl : lightL l) : ∃ fi la en, noonmarkref14_Span.f k l = some (fi, la, en) ∧ -20000 ≤ la ∧ la ≤ 20000 ∧ (en = false → ∀ j : Nat, j < l.length → (rd_T42 l (j : Int)).f2 ≤ la) := by
  have h8 := hl.1
  unfold noonmarkref14_Span.f
  by_cases h : (l.length : Int) = 0
  · rw [if_pos h]
    exact ⟨0, 0, false, rfl, by omega, by omega, fun _ j hj => by omega⟩
  · rw [if_neg h, if_pos (by omega)]
    obtain ⟨_, _, _, _, _, r1, r2, r3, r4⟩ := hl.2 0 (by omega)
    have e0 : ((0 : Nat) : Int) = 0 := rfl
    rw [e0] at r1 r2 r3 r4
    exact span_l0 l hl l.length 0 k _ _ false (by omega) (by omega) r1 r2 (fun _ j hj => by omega)
theorem saved_congr (l : List S42) (p q : Int) (h : ∀ f, isFire l p f ↔ isFire l q f) : savedE l p = savedE l q := by
  cases hb : bestE l p l.length with
  | none => rw [saved_no (fun f => best_no hb f), saved_no (fun f hf => best_no hb f ((h f).2 hf))]
  | some f =>
    have h1 := best_is hb
    rw [saved_best h1, saved_best (q := q) ⟨(h f).1 h1.1, fun g hg => h1.2 g ((h g).2 hg)⟩]
theorem aheadR_l0 (l : List S42) (hl : lightL l) : ∀ (n k : Nat) (x : Int), (x - leastE l l.length + 1).toNat = n → x ≤ 9999 → -40000 ≤ x → n + 1200 ≤ k → noonmarkref14_ahead.l0 k l x = some (savedE l (x + 1)) := by
  have h8 := hl.1
  have hlb := least_bd l l.length
  intro n
  induction n with
  | zero =>
    intro k x h1 h2 h3 h4
    obtain ⟨k, rfl⟩ : ∃ j, k = j + 1 := ⟨k - 1, by omega⟩
    rw [noonmarkref14_ahead.l0, least_ev k (by omega) l h8, Option.bind_some, if_neg (by omega), saved_no]
    rintro f ⟨j, hj, x', t, h5, h6, rfl⟩
    have h7 := fireE_in h6
    have h9 := least_le l l.length j hj
    omega
  | succ n ih =>
    intro k x h1 h2 h3 h4
    obtain ⟨k, rfl⟩ : ∃ j, k = j + 1 := ⟨k - 1, by omega⟩
    have hs := ends_saved l x (x + 1) x (by omega) (fun z _ _ => by omega)
    rw [noonmarkref14_ahead.l0, least_ev k (by omega) l h8, Option.bind_some, if_pos (by omega), yearR_ev k (by omega) l h8 x, Option.bind_some]
    rcases List.eq_nil_or_concat (SF l x x) with e | ⟨fs, f, e⟩
    · rw [e] at hs ⊢
      have hw : wrap64 (x - 1) = x - 1 := w64 (by omega) (by omega)
      rw [if_neg (by decide), hw, ih k (x - 1) (by omega) (by omega) (by omega) (by omega), ← hs]
      show some (savedE l (x - 1 + 1)) = some (savedE l x)
      rw [show x - 1 + 1 = x by omega]
    · have hmem : f ∈ SF l x x := by rw [e, List.concat_eq_append]; simp
      have hlen := SF_len l x x
      have hl2 : (SF l x x).length ≤ 8 := by
        have : (x - x + 1).toNat = 1 := by omega
        rw [this] at hlen
        omega
      rw [e, List.concat_eq_append] at hs hl2 ⊢
      rw [endS_snoc] at hs
      obtain ⟨j, hj, x', t, _, _, _, e2⟩ := (SF_mem l x x f).1 hmem
      have hf0 : 0 ≤ f.f0 ∧ f.f0 < (l.length : Int) := by rw [e2]; exact ⟨by show (0 : Int) ≤ (j : Int); omega, by show (j : Int) < (l.length : Int); omega⟩
      have hL : ((fs ++ [f]).map toR).length = fs.length + 1 := by simp
      rw [List.length_append, List.length_singleton] at hl2
      have hw : wrap64 ((((fs ++ [f]).map toR).length : Int) - 1) = (fs.length : Int) := by rw [hL, w64 (by omega) (by omega)]; omega
      have hrd : rd_T47 ((fs ++ [f]).map toR) (fs.length : Int) = toR f := by
        unfold rd_T47
        rw [Int.toNat_natCast, List.getD_eq_getElem?_getD, List.getElem?_map, List.getElem?_append_right (Nat.le_refl _), Nat.sub_self]
        rfl
      rw [if_pos (by rw [hL]; omega), hw, hrd, if_pos (by omega), if_pos (by rw [hL]; omega), if_pos (show 0 ≤ (toR f).f0 from hf0.1), if_pos (show (toR f).f0 < (l.length : Int) from hf0.2), ← hs]
      rfl
theorem aheadR_ev (k : Nat) (hk : 12000 ≤ k) (l : List S42) (hl : lightL l) (y : Int) (hy : 1 ≤ y ∧ y ≤ 20001) : noonmarkref14_ahead.f k l y = some (savedE l y) := by
  have hlb := least_bd l l.length
  unfold noonmarkref14_ahead.f
  obtain ⟨fi, la, en, he, h1, h2, h3⟩ := span_ev k (by omega) l hl
  rw [he, Option.bind_some]
  obtain ⟨k, rfl⟩ : ∃ j, k = j + 1 := ⟨k - 1, by omega⟩
  cases en with
  | true =>
    rw [if_pos rfl, noonmarkref14_ahead.j0, mn_eq, w64 (by omega) (by omega), aheadR_l0 l hl _ k _ rfl (by omega) (by omega) (by omega)]
    congr 1
    refine saved_congr l _ _ fun f => ⟨?_, ?_⟩
    · rintro ⟨j, hj, x, t, h5, h6, rfl⟩; exact ⟨j, hj, x, t, by omega, h6, rfl⟩
    · rintro ⟨j, hj, x, t, h5, h6, rfl⟩
      have := fireE_in' h6
      exact ⟨j, hj, x, t, by omega, h6, rfl⟩
  | false =>
    have hw : wrap64 (la + 1) = la + 1 := w64 (by omega) (by omega)
    rw [if_neg (show ¬ (false = true) by decide), noonmarkref14_ahead.j0, hw, mn_eq, mn_eq, w64 (by omega) (by omega), aheadR_l0 l hl _ k _ rfl (by omega) (by omega) (by omega)]
    congr 1
    refine saved_congr l _ _ fun f => ⟨?_, ?_⟩
    · rintro ⟨j, hj, x, t, h5, h6, rfl⟩; exact ⟨j, hj, x, t, by omega, h6, rfl⟩
    · rintro ⟨j, hj, x, t, h5, h6, rfl⟩
      have h7 := fireE_in' h6
      have h8 := h3 rfl j hj
      exact ⟨j, hj, x, t, by omega, h6, rfl⟩
theorem SF_split (l : List S42) (y b : Int) (h : y ≤ b) : SF l y b = SF l y y ++ SF l (y + 1) b := by
  refine (uniqE _ _ ?_ (SF_pw _ _ _) fun f => ?_).symm
  · rw [List.pairwise_append]
    refine ⟨SF_pw _ _ _, SF_pw _ _ _, fun f hf g hg => ?_⟩
    obtain ⟨j, _, x, t, _, h3, _, rfl⟩ := (SF_mem _ _ _ f).1 hf
    obtain ⟨j', _, x', t', h4, _, _, rfl⟩ := (SF_mem _ _ _ g).1 hg
    rw [LT_iff]
    dsimp only
    omega
  · rw [List.mem_append, SF_mem, SF_mem, SF_mem]
    constructor
    · rintro (⟨j, hj, x, t, h3, h4, h5, h6⟩ | ⟨j, hj, x, t, h3, h4, h5, h6⟩)
      · exact ⟨j, hj, x, t, h3, by omega, h5, h6⟩
      · exact ⟨j, hj, x, t, by omega, h4, h5, h6⟩
    · rintro ⟨j, hj, x, t, h3, h4, h5, h6⟩
      by_cases e : x = y
      · exact .inl ⟨j, hj, x, t, h3, by omega, h5, h6⟩
      · exact .inr ⟨j, hj, x, t, by omega, h4, h5, h6⟩
theorem SF_none (l : List S42) (y b : Int) (h : b < y) : SF l y b = [] := by
  refine List.eq_nil_iff_forall_not_mem.2 fun f hf => ?_
  obtain ⟨j, _, x, t, h1, h2, _, _⟩ := (SF_mem l y b f).1 hf
  omega
theorem fromR_l1 (l : List S42) (h8 : l.length ≤ 8) (b : Int) (acc : List S47) (hacc : acc.length ≤ 1000000) (y : Int) : ∀ (todo : List S36) (done : List S47) (s : Int) (k : Nat), done.length + todo.length ≤ 1000 → (∀ f ∈ todo, 0 ≤ f.f0 ∧ f.f0 < (l.length : Int)) →
    noonmarkref14_From.l1 (k + todo.length + 1) l b s acc y (done ++ todo.map toR) (done.length : Int) = noonmarkref14_From.l0 k l b (endS l s todo) (acc ++ (done ++ (chainE l s todo).map toR)) (wrap64 (y + 1)) := by
  intro todo
  induction todo with
  | nil =>
    intro done s k h1 h2
    rw [noonmarkref14_From.l1, if_neg (by simp), if_pos (by simp at h1 ⊢; omega)]
    simp [chainE, endS]
  | cons f fs ih =>
    intro done s k h1 h2
    simp only [List.length_cons] at h1
    obtain ⟨f1, f2⟩ := h2 f (by simp)
    have hrd : rd_T47 (done ++ (f :: fs).map toR) (done.length : Int) = toR f := by
      unfold rd_T47
      rw [Int.toNat_natCast, List.getD_eq_getElem?_getD, List.getElem?_append_right (Nat.le_refl _), Nat.sub_self]
      rfl
    have hset : (done ++ (f :: fs).map toR).set ((done.length : Int)).toNat (⟨(toR f).f0, (toR f).f1, (toR f).f2, s⟩ : S47) = (done ++ [toR ⟨f.f0, f.f1, f.f2, s⟩]) ++ fs.map toR := by
      rw [Int.toNat_natCast, List.set_append_right _ _ (Nat.le_refl _), Nat.sub_self]
      simp [toR]
    have hrd2 : rd_T47 ((done ++ [toR ⟨f.f0, f.f1, f.f2, s⟩]) ++ fs.map toR) (done.length : Int) = toR ⟨f.f0, f.f1, f.f2, s⟩ := by
      unfold rd_T47
      rw [Int.toNat_natCast, List.getD_eq_getElem?_getD, List.append_assoc, List.getElem?_append_right (Nat.le_refl _), Nat.sub_self]
      rfl
    have hw : wrap64 ((done.length : Int) + 1) = ((done ++ [toR (⟨f.f0, f.f1, f.f2, s⟩ : S36)]).length : Int) := by
      rw [w64 (by omega) (by omega)]; simp
    rw [show k + (f :: fs).length + 1 = (k + fs.length + 1) + 1 by simp; omega, noonmarkref14_From.l1, if_pos (by simp; omega), if_pos (by omega), hrd, hset, Option.bind_some, hrd2,
      if_pos (show 0 ≤ (toR (⟨f.f0, f.f1, f.f2, s⟩ : S36)).f0 from f1), if_pos (show (toR (⟨f.f0, f.f1, f.f2, s⟩ : S36)).f0 < (l.length : Int) from f2), hw]
    refine (ih (done ++ [toR ⟨f.f0, f.f1, f.f2, s⟩]) ((rd_T42 l f.f0).f6) k (by simp; omega) (fun g hg => h2 g (by simp [hg]))).trans ?_
    simp [chainE, endS]
theorem fromR_l0 (l : List S42) (hl : lightL l) (b : Int) (hb : b ≤ 9999) : ∀ (n k : Nat) (y s : Int) (acc : List S47), (b - y + 1).toNat = n → n ≤ 31 → 1 ≤ y → y ≤ 20001 → acc.length + n * 8 ≤ 1000 → n * 20 + 1200 ≤ k →
    noonmarkref14_From.l0 k l b s acc y = some (acc ++ (chainE l s (SF l y b)).map toR) := by
  have h8 := hl.1
  intro n
  induction n with
  | zero =>
    intro k y s acc h1 h2 h3 h4 h5 h6
    obtain ⟨k, rfl⟩ : ∃ j, k = j + 1 := ⟨k - 1, by omega⟩
    rw [noonmarkref14_From.l0, if_neg (by omega), SF_none l y b (by omega)]
    simp [chainE]
  | succ n ih =>
    intro k y s acc h1 h2 h3 h4 h5 h6
    have hlen := SF_len l y y
    rw [show (y - y + 1).toNat = 1 by omega, Nat.mul_one] at hlen
    obtain ⟨k, rfl⟩ : ∃ j, k = (j + (SF l y y).length + 1) + 1 := ⟨k - (SF l y y).length - 2, by omega⟩
    have hw : wrap64 (y + 1) = y + 1 := w64 (by omega) (by omega)
    have h7 := fromR_l1 l h8 b acc (by omega) y (SF l y y) [] s k (by simp; omega) (fun f hf => by
      obtain ⟨j, hj, _, _, _, _, _, e⟩ := (SF_mem l y y f).1 hf
      subst e
      exact ⟨by show (0 : Int) ≤ (j : Int); omega, by show (j : Int) < (l.length : Int); omega⟩)
    rw [hw] at h7
    rw [noonmarkref14_From.l0, if_pos (by omega), yearR_ev _ (by omega) l h8 y, Option.bind_some]
    refine h7.trans ?_
    rw [ih k (y + 1) _ _ (by omega) (by omega) (by omega) (by omega) (by simp [chainE_len]; omega) (by omega), SF_split l y b (by omega), chain_append]
    simp
theorem fromR_ev (k : Nat) (hk : 12001 ≤ k) (l : List S42) (hl : lightL l) (a b : Int) (ha : -20000 ≤ a ∧ a ≤ 20000) (hb : b - a ≤ 30) : noonmarkref14_From.f k l a b = some ((FromE l a b).map toR) := by
  have h8 := hl.1
  have hlb := least_bd l l.length
  have e1 : mx a 1 = max a 1 := mx_eq a 1
  have e2 : mn b 9999 = min b 9999 := mn_eq b 9999
  unfold noonmarkref14_From.f FromE
  rw [aheadR_ev k (by omega) l hl (mx a 1) (by omega), Option.bind_some, least_ev k (by omega) l h8, Option.bind_some]
  have e3 : mx (mx a 1) (leastE l l.length) = max (mx a 1) (leastE l l.length) := mx_eq _ _
  have hS : SF l (mx (mx a 1) (leastE l l.length)) (mn b 9999) = SF l (mx a 1) (mn b 9999) := by
    refine uniqE _ _ (SF_pw _ _ _) (SF_pw _ _ _) fun f => ?_
    rw [SF_mem, SF_mem]
    constructor
    · rintro ⟨j, hj, x, t, h3, h4, h5, h6⟩; exact ⟨j, hj, x, t, by omega, h4, h5, h6⟩
    · rintro ⟨j, hj, x, t, h3, h4, h5, h6⟩
      have h7 := fireE_in h5
      have h9 := least_le l l.length j hj
      exact ⟨j, hj, x, t, by omega, h4, h5, h6⟩
  rw [fromR_l0 l hl (mn b 9999) (by omega) _ k _ _ [] rfl (by omega) (by omega) (by omega) (by simp; omega) (by omega), hS]
  rfl
theorem yearsR_ev (k : Nat) (hk : 12001 ≤ k) (l : List S42) (hl : lightL l) (y : Int) (ha : -20000 ≤ y ∧ y ≤ 20000) : noonmarkref14_Year.f k l y = some ((FromE l y y).map toR) := by
  unfold noonmarkref14_Year.f
  rw [fromR_ev k hk l hl y y ha (by omega)]
  rfl
theorem years_j0 (l : List S42) (hl : lightL l) (a b : Int) (h0 : -20000 ≤ a) (h1 : b ≤ 20000) (h2 : a ≤ b) (h4 : b - a ≤ 30) : noonmarklaw14_ExpandYears.j0 13001 l a b false = some true := by
  have h8 := hl.1
  have n1 := FromE_len l h8 a b (by omega)
  have n2 := FromE_len l h8 a a (by omega)
  rw [noonmarklaw14_ExpandYears.j0, if_neg (by decide), from_ev 13000 (by decide) l hl a b ⟨by omega, by omega⟩ (by omega), Option.bind_some, back_ev _ 13000 (by omega) (by omega), Option.bind_some,
    fromR_ev 13000 (by decide) l hl a b ⟨by omega, by omega⟩ (by omega), Option.bind_some, same_ev _ 13000 (by rw [List.length_map]; omega) (by rw [List.length_map]; omega), Option.bind_some, if_pos rfl,
    year_ev 13000 (by decide) l hl a ⟨by omega, by omega⟩, Option.bind_some, back_ev _ 13000 (by omega) (by omega), Option.bind_some, yearsR_ev 13000 (by decide) l hl a ⟨by omega, by omega⟩, Option.bind_some,
    same_ev _ 13000 (by rw [List.length_map]; omega) (by rw [List.length_map]; omega), Option.bind_some, if_pos rfl]
  rfl
theorem years_ev (l : List S42) (a b : Int) : noonmarklaw14_ExpandYears.f 13001 l a b = some true := by
  have out : noonmarklaw14_ExpandYears.j0 13001 l a b true = some true := by
    rw [noonmarklaw14_ExpandYears.j0, if_pos rfl]; rfl
  unfold noonmarklaw14_ExpandYears.f
  obtain ⟨x, hx, hL⟩ := light_ev l 13001 (by decide)
  rw [hx, Option.bind_some]
  cases x with
  | false => rw [if_neg (by decide)]; exact out
  | true =>
    rw [if_pos rfl]
    by_cases c1 : a < -20000
    · rw [if_pos c1]; exact out
    by_cases c2 : b > 20000
    · rw [if_neg c1, if_pos c2]; exact out
    by_cases c3 : b < a
    · rw [if_neg c1, if_neg c2, if_pos c3]; exact out
    rw [if_neg c1, if_neg c2, if_neg c3]
    have hw : wrap64 (b - a) = b - a := w64 (by omega) (by omega)
    rw [hw]
    by_cases c5 : b - a > 30
    · rw [decide_eq_true c5]; exact out
    · rw [decide_eq_false c5]
      exact years_j0 l (hL rfl) a b (by omega) (by omega) (by omega) (by omega)
theorem expandYears_any (A0 : Option Addr) (c0 : Nat) (l0 : List S42) (a1 a2 : Int) (w : World) (hc : l0.length ≤ c0) (hC : Kd.C k42 w A0 l0.length l0) :
    Calls Try.prog 3 #[.slice A0 l0.length c0, .int .i64 a1, .int .i64 a2] w fun e w' => e = .returned (.bool true) ∧ Below w.heap.size w w' :=
  noonmarklaw14_ExpandYears.calls 13001 A0 c0 l0 a1 a2 true w hC hc (years_ev l0 a1 a2)
end Go.Proofs.Ytlonanlogdokfaa.S
