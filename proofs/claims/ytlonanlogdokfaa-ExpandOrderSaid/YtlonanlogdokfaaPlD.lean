/- Light, Back and Same; the last of all fires ahead of a year, and two stretches of years one behind the other. -/
import Derived.Test.YtlonanlogdokfaaPlC
namespace Go.Proofs.Ytlonanlogdokfaa.S
open Go.RowKit Go.Proofs.Ytlonanlogdokfaa.Facts Go.Proofs.Ytlonanlogdokfaa.Cal
open Go.Proofs.YtlonanlogdokfaaW.PrintWords Go.Proofs.YtlonanlogdokfaaW.PrintLast Go.Proofs.YtlonanlogdokfaaW.PrintMore
set_option linter.unusedVariables false
set_option linter.unusedSimpArgs false

theorem light_l0 (l : List S42) (h8 : l.length ≤ 8) : ∀ (m i k : Nat), i + m = l.length → m + 1 ≤ k → ∃ b, noonmarklaw14_Light.l0 k l (i : Int) = some b ∧ (b = true → ∀ j : Nat, i ≤ j → j < l.length → lightR (rd_T42 l (j : Int))) := by
  intro m
  induction m with
  | zero =>
    intro i k h1 h2
    obtain ⟨k, rfl⟩ : ∃ j, k = j + 1 := ⟨k - 1, by omega⟩
    rw [noonmarklaw14_Light.l0, if_neg (by omega)]
    exact ⟨true, rfl, fun _ j h3 h4 => by omega⟩
  | succ m ih =>
    intro i k h1 h2
    obtain ⟨k, rfl⟩ : ∃ j, k = j + 1 := ⟨k - 1, by omega⟩
    rw [noonmarklaw14_Light.l0, if_pos (by omega), if_pos (by omega)]
    generalize hr : rd_T42 l (i : Int) = r
    have out : ∃ b, (some false : Option Bool) = some b ∧ (b = true → ∀ j : Nat, i ≤ j → j < l.length → lightR (rd_T42 l (j : Int))) := ⟨false, rfl, fun h => by simp at h⟩
    by_cases c1 : r.f5.f0 < -700000
    · rw [if_pos c1]; exact out
    by_cases c2 : r.f5.f0 > 700000
    · rw [if_neg c1, if_pos c2]; exact out
    by_cases c3 : r.f6 < -100000
    · rw [if_neg c1, if_neg c2, if_pos c3]; exact out
    by_cases c4 : r.f6 > 100000
    · rw [if_neg c1, if_neg c2, if_neg c3, if_pos c4]; exact out
    by_cases c5 : (r.f7.size : Int) > 50
    · rw [if_neg c1, if_neg c2, if_neg c3, if_neg c4, if_pos c5]; exact out
    by_cases c6 : r.f1 < -20000
    · rw [if_neg c1, if_neg c2, if_neg c3, if_neg c4, if_neg c5, if_pos c6]; exact out
    by_cases c7 : r.f1 > 20000
    · rw [if_neg c1, if_neg c2, if_neg c3, if_neg c4, if_neg c5, if_neg c6, if_pos c7]; exact out
    by_cases c8 : r.f2 < -20000
    · rw [if_neg c1, if_neg c2, if_neg c3, if_neg c4, if_neg c5, if_neg c6, if_neg c7, if_pos c8]; exact out
    by_cases c9 : r.f2 > 20000
    · rw [if_neg c1, if_neg c2, if_neg c3, if_neg c4, if_neg c5, if_neg c6, if_neg c7, if_neg c8, if_pos c9]; exact out
    rw [if_neg c1, if_neg c2, if_neg c3, if_neg c4, if_neg c5, if_neg c6, if_neg c7, if_neg c8, if_neg c9]
    have hw : wrap64 ((i : Int) + 1) = ((i + 1 : Nat) : Int) := by rw [w64 (by omega) (by omega)]; rfl
    rw [hw]
    obtain ⟨b, hb, hj⟩ := ih (i + 1) k (by omega) (by omega)
    refine ⟨b, hb, fun e j h3 h4 => ?_⟩
    by_cases e2 : j = i
    · subst e2
      rw [hr]
      exact ⟨by omega, by omega, by omega, by omega, by omega, by omega, by omega, by omega, by omega⟩
    · exact hj e j (by omega) h4
theorem light_ev (l : List S42) (k : Nat) (hk : 9 ≤ k) : ∃ b, noonmarklaw14_Light.f k l 8 = some b ∧ (b = true → lightL l) := by
  unfold noonmarklaw14_Light.f
  by_cases h : (l.length : Int) > 8
  · rw [if_pos h]; exact ⟨false, rfl, fun e => by simp at e⟩
  · rw [if_neg h]
    obtain ⟨b, hb, hj⟩ := light_l0 l (by omega) l.length 0 k (by omega) (by omega)
    exact ⟨b, hb, fun e => ⟨by omega, fun j hj2 => hj e j (Nat.zero_le _) hj2⟩⟩
/-- a fire, as the document's -/
def toR (f : S36) : S47 := ⟨f.f0, f.f1, f.f2, f.f3⟩
theorem back_l0 : ∀ (todo done : List S36) (k : Nat), done.length + todo.length ≤ 1000000 → noonmarklaw14_Back.l0 (k + todo.length + 1) (done ++ todo) (done.map toR) (done.length : Int) = some ((done ++ todo).map toR) := by
  intro todo
  induction todo with
  | nil =>
    intro done k h
    rw [noonmarklaw14_Back.l0, if_neg (by simp)]
    simp
  | cons f fs ih =>
    intro done k h
    have hrd : rd_T36 (done ++ f :: fs) (done.length : Int) = f := by
      unfold rd_T36
      rw [Int.toNat_natCast, List.getD_eq_getElem?_getD, List.getElem?_append_right (Nat.le_refl _), Nat.sub_self]
      rfl
    simp only [List.length_cons] at h
    rw [show k + (f :: fs).length + 1 = (k + fs.length + 1) + 1 by simp; omega, noonmarklaw14_Back.l0, if_pos (by simp; omega), if_pos (by omega), if_pos (by simp; omega), hrd]
    have hw : wrap64 ((done.length : Int) + 1) = ((done ++ [f]).length : Int) := by
      rw [w64 (by omega) (by omega)]; simp
    have he : done.map toR ++ [(⟨f.f0, f.f1, f.f2, f.f3⟩ : S47)] = (done ++ [f]).map toR := by simp [toR]
    rw [he, hw, show done ++ f :: fs = (done ++ [f]) ++ fs by simp, ih (done ++ [f]) k (by simp; omega)]
theorem back_ev (l : List S36) (k : Nat) (h : l.length ≤ 1000000) (hk : l.length + 1 ≤ k) : noonmarklaw14_Back.f k l = some (l.map toR) := by
  obtain ⟨k, rfl⟩ : ∃ j, k = j + l.length + 1 := ⟨k - l.length - 1, by omega⟩
  unfold noonmarklaw14_Back.f
  exact back_l0 l [] k (by simpa using h)
theorem same_l0 (l : List S47) (hl : l.length ≤ 1000000) : ∀ (m i k : Nat), i + m = l.length → m + 1 ≤ k → noonmarkref14_Same.l0 k l l (i : Int) = some true := by
  intro m
  induction m with
  | zero =>
    intro i k h1 h2
    obtain ⟨k, rfl⟩ : ∃ j, k = j + 1 := ⟨k - 1, by omega⟩
    rw [noonmarkref14_Same.l0, if_neg (by omega)]
  | succ m ih =>
    intro i k h1 h2
    obtain ⟨k, rfl⟩ : ∃ j, k = j + 1 := ⟨k - 1, by omega⟩
    rw [noonmarkref14_Same.l0, if_pos (by omega), if_pos (by omega), if_pos (by omega), if_neg (by simp)]
    have hw : wrap64 ((i : Int) + 1) = ((i + 1 : Nat) : Int) := by rw [w64 (by omega) (by omega)]; rfl
    rw [hw]
    exact ih (i + 1) k (by omega) (by omega)
theorem same_ev (l : List S47) (k : Nat) (h : l.length ≤ 1000000) (hk : l.length + 1 ≤ k) : noonmarkref14_Same.f k l l = some true := by
  unfold noonmarkref14_Same.f
  rw [if_pos rfl]
  exact same_l0 l h l.length 0 k (by omega) (by omega)

/-! the last of all fires ahead of year q -/
def isFire (l : List S42) (q : Int) (f : S36) : Prop := ∃ j : Nat, j < l.length ∧ ∃ x t, x < q ∧ fireE (rd_T42 l (j : Int)) x = some t ∧ f = ⟨(j : Int), x, t, 0⟩
def isBest (l : List S42) (q : Int) (f : S36) : Prop := isFire l q f ∧ ∀ g, isFire l q g → ¬ LT f g
theorem lastOf_fire {l : List S42} {q : Int} {j : Nat} {f : S36} (hj : j < l.length) (h : lastOf l q j = some f) : isFire l q f := by
  unfold lastOf at h
  obtain ⟨p, hp, e⟩ := Option.map_eq_some_iff.1 h
  obtain ⟨a, b, _⟩ := lastF_some hp
  exact ⟨j, hj, p.1, p.2, b, a, e.symm⟩
theorem fire_lastOf {l : List S42} {q x t : Int} {j : Nat} (hx : x < q) (hf : fireE (rd_T42 l (j : Int)) x = some t) : ∃ f, lastOf l q j = some f ∧ ¬ LT f ⟨(j : Int), x, t, 0⟩ := by
  cases hF : lastF (rd_T42 l (j : Int)) q with
  | none => rw [lastF_none hF x hx] at hf; simp at hf
  | some p =>
    obtain ⟨a, b, c⟩ := lastF_some hF
    refine ⟨⟨(j : Int), p.1, p.2, 0⟩, by unfold lastOf; rw [hF]; rfl, ?_⟩
    rw [LT_iff]
    dsimp only
    have h1 : x ≤ p.1 := by
      rcases Int.lt_or_le p.1 x with h | h
      · rw [c x h hx] at hf; simp at hf
      · exact h
    by_cases e : x = p.1
    · subst e
      rw [a] at hf
      simp only [Option.some.injEq] at hf
      omega
    · omega
theorem best_is {l : List S42} {q : Int} {f : S36} (h : bestE l q l.length = some f) : isBest l q f := by
  obtain ⟨⟨j, hj, hl⟩, hm⟩ := best_some l q _ f h
  refine ⟨lastOf_fire hj hl, ?_⟩
  rintro g ⟨j', hj', x, t, hx, hf, rfl⟩ hlt
  obtain ⟨f', h1, h2⟩ := fire_lastOf (l := l) hx hf
  have h3 := hm j' f' hj' h1
  have h4 : ¬ LT f f' := h3
  rw [LT_iff] at hlt h2 h4
  omega
theorem best_no {l : List S42} {q : Int} (h : bestE l q l.length = none) (f : S36) : ¬ isFire l q f := by
  rintro ⟨j, hj, x, t, hx, hf, rfl⟩
  obtain ⟨f', h1, _⟩ := fire_lastOf (l := l) hx hf
  rw [best_none l q _ h j hj] at h1
  simp at h1
theorem best_uniq {l : List S42} {q : Int} {f g : S36} (hf : isBest l q f) (hg : isBest l q g) : f = g := by
  have h1 := hf.2 g hg.1
  have h2 := hg.2 f hf.1
  obtain ⟨j, _, x, t, _, _, rfl⟩ := hf.1
  obtain ⟨j', _, x', t', _, _, rfl⟩ := hg.1
  rw [LT_iff] at h1 h2
  dsimp only at h1 h2
  have e1 : (j : Int) = (j' : Int) := by omega
  have e2 : x = x' := by omega
  have e3 : t = t' := by omega
  rw [e1, e2, e3]
theorem saved_best {l : List S42} {q : Int} {f : S36} (h : isBest l q f) : savedE l q = (rd_T42 l f.f0).f6 := by
  unfold savedE
  cases hb : bestE l q l.length with
  | none => exact absurd h.1 (best_no hb f)
  | some g =>
    rw [best_uniq h (best_is hb)]
    rfl
theorem saved_no {l : List S42} {q : Int} (h : ∀ f, ¬ isFire l q f) : savedE l q = 0 := by
  unfold savedE
  cases hb : bestE l q l.length with
  | none => rfl
  | some g => exact absurd (best_is hb).1 (h g)
/-- the saving behind fires -/
def endS (l : List S42) : Int → List S36 → Int
  | s, [] => s
  | _, f :: fs => endS l ((rd_T42 l f.f0).f6) fs
theorem chain_append (l : List S42) : ∀ (f1 f2 : List S36) (s : Int), chainE l s (f1 ++ f2) = chainE l s f1 ++ chainE l (endS l s f1) f2 := by
  intro f1
  induction f1 with
  | nil => intro f2 s; rfl
  | cons f fs ih => intro f2 s; simp [chainE, endS, ih]
theorem endS_snoc (l : List S42) (f : S36) : ∀ (fs : List S36) (s : Int), endS l s (fs ++ [f]) = (rd_T42 l f.f0).f6 := by
  intro fs
  induction fs with
  | nil => intro s; rfl
  | cons g fs ih => intro s; exact ih _
theorem ends_saved (l : List S42) (p q c : Int) (hpq : p ≤ q) (h : ∀ x, p ≤ x → x ≤ 9999 → (x ≤ c ↔ x < q)) : endS l (savedE l p) (SF l p c) = savedE l q := by
  have hmem : ∀ f, f ∈ SF l p c ↔ (isFire l q f ∧ p ≤ f.f1) := by
    intro f
    rw [SF_mem]
    constructor
    · rintro ⟨j, hj, x, t, h1, h2, h3, rfl⟩
      exact ⟨⟨j, hj, x, t, (h x h1 (fireE_in' h3).2.2.2).1 h2, h3, rfl⟩, h1⟩
    · rintro ⟨⟨j, hj, x, t, h1, h3, rfl⟩, h2⟩
      exact ⟨j, hj, x, t, h2, (h x h2 (fireE_in' h3).2.2.2).2 h1, h3, rfl⟩
  rcases List.eq_nil_or_concat (SF l p c) with e | ⟨fs, f, e⟩
  · rw [e]
    rw [e] at hmem
    show savedE l p = savedE l q
    have hiff : ∀ f, isFire l q f ↔ isFire l p f := by
      intro f
      constructor
      · intro hf
        rcases Int.lt_or_le f.f1 p with hlt | hle
        · obtain ⟨j, hj, x, t, h1, h3, rfl⟩ := hf
          exact ⟨j, hj, x, t, hlt, h3, rfl⟩
        · exact absurd ((hmem f).2 ⟨hf, hle⟩) (by simp)
      · rintro ⟨j, hj, x, t, h1, h3, rfl⟩
        exact ⟨j, hj, x, t, by omega, h3, rfl⟩
    cases hb : bestE l p l.length with
    | none =>
      rw [saved_no (fun f => best_no hb f), saved_no (fun f hf => best_no hb f ((hiff f).1 hf))]
    | some f =>
      have h1 := best_is hb
      rw [saved_best h1, saved_best (q := q) ⟨(hiff f).2 h1.1, fun g hg => h1.2 g ((hiff g).1 hg)⟩]
  · have hpw := SF_pw l p c
    rw [e] at hpw hmem ⊢
    rw [List.concat_eq_append] at hpw hmem ⊢
    rw [endS_snoc]
    refine (saved_best ⟨((hmem f).1 (by simp)).1, fun g hg hlt => ?_⟩).symm
    have hf1 := ((hmem f).1 (by simp)).2
    rcases Int.lt_or_le g.f1 p with h1 | h1
    · rw [LT_iff] at hlt; omega
    · have hgm := (hmem g).2 ⟨hg, h1⟩
      rw [List.mem_append, List.mem_singleton] at hgm
      rw [List.pairwise_append] at hpw
      rcases hgm with h2 | h2
      · have := hpw.2.2 g h2 f (by simp)
        rw [LT_iff] at this hlt
        omega
      · subst h2; rw [LT_iff] at hlt; omega
/-- the fires of two stretches of years, one behind the other -/
theorem joins (l : List S42) (a m b : Int) (h1 : a ≤ m) (h2 : m ≤ b) : FromE l a m ++ FromE l (m + 1) b = FromE l a b := by
  unfold FromE
  simp only [mx_eq, mn_eq]
  have hs : SF l (max a 1) (min m 9999) ++ SF l (max (m + 1) 1) (min b 9999) = SF l (max a 1) (min b 9999) := by
    refine uniqE _ _ ?_ (SF_pw _ _ _) fun f => ?_
    · rw [List.pairwise_append]
      refine ⟨SF_pw _ _ _, SF_pw _ _ _, fun f hf g hg => ?_⟩
      obtain ⟨j, _, x, t, _, h3, _, rfl⟩ := (SF_mem _ _ _ f).1 hf
      obtain ⟨j', _, x', t', h4, _, _, rfl⟩ := (SF_mem _ _ _ g).1 hg
      rw [LT_iff]
      dsimp only
      omega
    · rw [List.mem_append, SF_mem, SF_mem, SF_mem]
      constructor
      · rintro (⟨j, hj, x, t, h3, h4, h5, h6⟩ | ⟨j, hj, x, t, h3, h4, h5, h6⟩)
        · exact ⟨j, hj, x, t, h3, by omega, h5, h6⟩
        · exact ⟨j, hj, x, t, by omega, h4, h5, h6⟩
      · rintro ⟨j, hj, x, t, h3, h4, h5, h6⟩
        rcases Int.lt_or_le m x with h7 | h7
        · exact .inr ⟨j, hj, x, t, by omega, h4, h5, h6⟩
        · exact .inl ⟨j, hj, x, t, h3, by omega, h5, h6⟩
  rw [← hs, chain_append, ends_saved l (max a 1) (max (m + 1) 1) (min m 9999) (by omega) (fun x h3 h4 => by omega)]
theorem FromE_len (l : List S42) (hl : l.length ≤ 8) (a b : Int) (hb : b - a ≤ 30) : (FromE l a b).length ≤ 248 := by
  unfold FromE
  rw [chainE_len]
  have h1 := SF_len l (mx a 1) (mn b 9999)
  have h2 : (mn b 9999 - mx a 1 + 1).toNat ≤ 31 := by rw [mx_eq, mn_eq]; omega
  exact Nat.le_trans h1 (Nat.mul_le_mul hl h2)
end Go.Proofs.Ytlonanlogdokfaa.S
