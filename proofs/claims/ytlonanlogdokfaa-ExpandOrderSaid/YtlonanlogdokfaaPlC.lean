/- The fires of rules in any years, sorted, each with the saving ahead: what expand.From answers. -/
import Derived.Test.YtlonanlogdokfaaPlB
import Derived.Test.YtlonanlogdokfaaS7
namespace Go.Proofs.Ytlonanlogdokfaa.S
open Go.RowKit Go.Proofs.Ytlonanlogdokfaa.Facts Go.Proofs.Ytlonanlogdokfaa.Cal
open Go.Proofs.YtlonanlogdokfaaW.PrintWords Go.Proofs.YtlonanlogdokfaaW.PrintLast Go.Proofs.YtlonanlogdokfaaW.PrintMore
set_option linter.unusedVariables false
set_option linter.unusedSimpArgs false

/-- a rule's fires in n years from y on -/
def yrs (r : S42) (i : Int) : Nat → Int → List S36
  | 0, _ => []
  | n + 1, y => (match fireE r y with | some t => [(⟨i, y, t, 0⟩ : S36)] | none => []) ++ yrs r i n (y + 1)
def cnt (a b : Int) (r : S42) : Nat := (mn b (lastE r) - mx a (firstE r) + 1).toNat
/-- the fires of m rules from the i-th on -/
def flE (l : List S42) (a b : Int) : Nat → Nat → List S36
  | _, 0 => []
  | i, m + 1 => yrs (rd_T42 l (i : Int)) (i : Int) (cnt a b (rd_T42 l (i : Int))) (mx a (firstE (rd_T42 l (i : Int)))) ++ flE l a b (i + 1) m
def FE (l : List S42) (a b : Int) : List S36 := flE l a b 0 l.length
theorem mx_eq (a b : Int) : mx a b = max a b := by unfold mx; omega
theorem mn_eq (a b : Int) : mn a b = min a b := by unfold mn; omega
theorem yrs_mem (r : S42) (i : Int) (f : S36) : ∀ (n : Nat) (y : Int), f ∈ yrs r i n y ↔ ∃ x t, y ≤ x ∧ x < y + n ∧ fireE r x = some t ∧ f = ⟨i, x, t, 0⟩ := by
  intro n
  induction n with
  | zero =>
    intro y
    unfold yrs
    constructor
    · intro h; simp at h
    · rintro ⟨x, t, h1, h2, _⟩; omega
  | succ n ih =>
    intro y
    unfold yrs
    rw [List.mem_append, ih]
    constructor
    · rintro (h | ⟨x, t, h1, h2, h3, h4⟩)
      · cases hf : fireE r y with
        | some t =>
          rw [hf] at h
          simp only [List.mem_singleton] at h
          exact ⟨y, t, by omega, by omega, hf, h⟩
        | none => rw [hf] at h; simp at h
      · exact ⟨x, t, by omega, by omega, h3, h4⟩
    · rintro ⟨x, t, h1, h2, h3, h4⟩
      by_cases e : x = y
      · subst e
        left
        rw [h3]
        simp [h4]
      · exact .inr ⟨x, t, by omega, by omega, h3, h4⟩
theorem yrs_len (r : S42) (i : Int) : ∀ (n : Nat) (y : Int), (yrs r i n y).length ≤ n := by
  intro n
  induction n with
  | zero => intro y; simp [yrs]
  | succ n ih =>
    intro y
    unfold yrs
    rw [List.length_append]
    have := ih (y + 1)
    cases fireE r y <;> simp <;> omega
theorem flE_mem (l : List S42) (a b : Int) (f : S36) : ∀ (m i : Nat), f ∈ flE l a b i m ↔ ∃ j : Nat, i ≤ j ∧ j < i + m ∧ ∃ x t, a ≤ x ∧ x ≤ b ∧ fireE (rd_T42 l (j : Int)) x = some t ∧ f = ⟨(j : Int), x, t, 0⟩ := by
  intro m
  induction m with
  | zero =>
    intro i
    unfold flE
    constructor
    · intro h; simp at h
    · rintro ⟨j, h1, h2, _⟩; omega
  | succ m ih =>
    intro i
    unfold flE
    rw [List.mem_append, ih, yrs_mem]
    unfold cnt
    rw [mx_eq, mn_eq]
    constructor
    · rintro (⟨x, t, h1, h2, h3, h4⟩ | ⟨j, h1, h2, h3⟩)
      · exact ⟨i, by omega, by omega, x, t, by omega, by omega, h3, h4⟩
      · exact ⟨j, by omega, by omega, h3⟩
    · rintro ⟨j, h1, h2, x, t, h3, h4, h5, h6⟩
      by_cases e : j = i
      · subst e
        have := fireE_in h5
        exact .inl ⟨x, t, by omega, by omega, h5, h6⟩
      · exact .inr ⟨j, by omega, by omega, x, t, h3, h4, h5, h6⟩
theorem FE_mem (l : List S42) (a b : Int) (f : S36) : f ∈ FE l a b ↔ ∃ j : Nat, j < l.length ∧ ∃ x t, a ≤ x ∧ x ≤ b ∧ fireE (rd_T42 l (j : Int)) x = some t ∧ f = ⟨(j : Int), x, t, 0⟩ := by
  unfold FE
  rw [flE_mem]
  constructor
  · rintro ⟨j, _, h, h2⟩; exact ⟨j, by omega, h2⟩
  · rintro ⟨j, h, h2⟩; exact ⟨j, by omega, by omega, h2⟩
theorem cnt_le (a b : Int) (r : S42) : cnt a b r ≤ (b - a + 1).toNat := by unfold cnt; rw [mx_eq, mn_eq]; omega
theorem flE_len (l : List S42) (a b : Int) : ∀ (m i : Nat), (flE l a b i m).length ≤ m * (b - a + 1).toNat := by
  intro m
  induction m with
  | zero => intro i; simp [flE]
  | succ m ih =>
    intro i
    unfold flE
    rw [List.length_append, Nat.add_mul, Nat.one_mul]
    have h1 := ih (i + 1)
    have h2 := yrs_len (rd_T42 l (i : Int)) (i : Int) (cnt a b (rd_T42 l (i : Int))) (mx a (firstE (rd_T42 l (i : Int))))
    have h3 := cnt_le a b (rd_T42 l (i : Int))
    omega
/-- ordered by rule, then by year: no two alike -/
def ltI (f g : S36) : Prop := f.f0 < g.f0 ∨ (f.f0 = g.f0 ∧ f.f1 < g.f1)
theorem yrs_pw (r : S42) (i : Int) : ∀ (n : Nat) (y : Int), (yrs r i n y).Pairwise ltI := by
  intro n
  induction n with
  | zero => intro y; simp [yrs]
  | succ n ih =>
    intro y
    unfold yrs
    rw [List.pairwise_append]
    refine ⟨by cases fireE r y <;> simp, ih (y + 1), fun f hf g hg => ?_⟩
    obtain ⟨x, t, h1, h2, h3, h4⟩ := (yrs_mem r i g n (y + 1)).1 hg
    cases hq : fireE r y with
    | none => rw [hq] at hf; simp at hf
    | some t' =>
      rw [hq] at hf
      simp only [List.mem_singleton] at hf
      subst hf h4
      exact .inr ⟨rfl, by show y < x; omega⟩
theorem flE_pw (l : List S42) (a b : Int) : ∀ (m i : Nat), (flE l a b i m).Pairwise ltI := by
  intro m
  induction m with
  | zero => intro i; simp [flE]
  | succ m ih =>
    intro i
    unfold flE
    rw [List.pairwise_append]
    refine ⟨yrs_pw _ _ _ _, ih (i + 1), fun f hf g hg => ?_⟩
    obtain ⟨x, t, _, _, _, h4⟩ := (yrs_mem _ _ f _ _).1 hf
    obtain ⟨j, h5, h6, x', t', _, _, _, h7⟩ := (flE_mem l a b g m (i + 1)).1 hg
    subst h4 h7
    exact .inl (by show (i : Int) < (j : Int); omega)
theorem FE_nodup (l : List S42) (a b : Int) : (FE l a b).Nodup := by
  refine (flE_pw l a b l.length 0).imp ?_
  rintro f g h rfl
  unfold ltI at h
  omega
/-- the order of fires -/
def LT (x y : S36) : Prop := cfE x y < 0
theorem LT_iff (x y : S36) : LT x y ↔ (x.f1 < y.f1 ∨ (x.f1 = y.f1 ∧ (x.f2 < y.f2 ∨ (x.f2 = y.f2 ∧ x.f0 < y.f0)))) := ltE' x y
theorem sortE_pw (l : List S36) : (sortE l).Pairwise fun x y => ¬ LT y x := by
  unfold sortE
  by_cases h : l = []
  · rw [if_pos h]; simp
  · rw [if_neg h]
    have h1 := Go.Sort.pdq_sorts (ltOf cfE) swoE l.toArray 0 l.toArray.size (Lib.bitLen l.toArray.size) true true (Nat.zero_le _) (Nat.le_refl _) (Or.inl rfl)
    generalize Go.Sort.pdq (ltOf cfE) l.toArray 0 l.toArray.size (Lib.bitLen l.toArray.size) true true = d at h1
    obtain ⟨⟨hs, _, _⟩, h2⟩ := h1
    rw [List.pairwise_iff_getElem]
    intro i j hi hj hij
    have hi' : i < d.size := by simpa using hi
    have hj' : j < d.size := by simpa using hj
    have h3 := h2 i j (Nat.zero_le _) hij (by omega)
    rw [getElem!_pos d j hj', getElem!_pos d i hi'] at h3
    unfold ltOf at h3
    rw [decide_eq_false_iff_not] at h3
    unfold LT
    simpa using h3
def SF (l : List S42) (a b : Int) : List S36 := sortE (FE l a b)
theorem SF_mem (l : List S42) (a b : Int) (f : S36) : f ∈ SF l a b ↔ ∃ j : Nat, j < l.length ∧ ∃ x t, a ≤ x ∧ x ≤ b ∧ fireE (rd_T42 l (j : Int)) x = some t ∧ f = ⟨(j : Int), x, t, 0⟩ := by
  unfold SF
  rw [(sortE_perm _).mem_iff, FE_mem]
theorem SF_len (l : List S42) (a b : Int) : (SF l a b).length ≤ l.length * (b - a + 1).toNat := by
  unfold SF
  rw [sortE_length]
  exact flE_len l a b _ _
theorem SF_pw (l : List S42) (a b : Int) : (SF l a b).Pairwise LT := by
  have h1 := sortE_pw (FE l a b)
  have h2 : (SF l a b).Nodup := (sortE_perm (FE l a b)).nodup_iff.2 (FE_nodup l a b)
  have h3 := List.Pairwise.and_mem.1 (h1.and h2)
  refine h3.imp ?_
  rintro x y ⟨hx, hy, h4, h5⟩
  obtain ⟨j, _, y1, t, _, _, _, e1⟩ := (SF_mem l a b x).1 hx
  obtain ⟨j', _, y1', t', _, _, _, e2⟩ := (SF_mem l a b y).1 hy
  subst e1 e2
  rw [LT_iff] at *
  dsimp only at *
  apply Classical.byContradiction
  intro h6
  apply h5
  have e1 : (j : Int) = (j' : Int) := by omega
  have e2 : y1 = y1' := by omega
  have e3 : t = t' := by omega
  rw [e1, e2, e3]
theorem uniqE : ∀ (l1 l2 : List S36), l1.Pairwise LT → l2.Pairwise LT → (∀ x, x ∈ l1 ↔ x ∈ l2) → l1 = l2 := by
  intro l1
  induction l1 with
  | nil =>
    intro l2 _ _ h
    cases l2 with
    | nil => rfl
    | cons b t => exact absurd ((h b).2 (by simp)) (by simp)
  | cons a t ih =>
    intro l2 h1 h2 h
    cases l2 with
    | nil => exact absurd ((h a).1 (by simp)) (by simp)
    | cons b t2 =>
      rw [List.pairwise_cons] at h1 h2
      have irr : ∀ x, ¬ LT x x := fun x => by rw [LT_iff]; omega
      have asy : ∀ x y, LT x y → LT y x → False := fun x y p q => by rw [LT_iff] at p q; omega
      have hab : a = b := by
        rcases List.mem_cons.1 ((h a).1 (by simp)) with e | e
        · exact e
        · rcases List.mem_cons.1 ((h b).2 (by simp)) with e2 | e2
          · exact e2.symm
          · exact (asy a b (h1.1 b e2) (h2.1 a e)).elim
      subst hab
      congr 1
      refine ih t2 h1.2 h2.2 fun x => ⟨fun hx => ?_, fun hx => ?_⟩
      · rcases List.mem_cons.1 ((h x).1 (List.mem_cons_of_mem _ hx)) with e | e
        · subst e; exact (irr _ (h1.1 _ hx)).elim
        · exact e
      · rcases List.mem_cons.1 ((h x).2 (List.mem_cons_of_mem _ hx)) with e | e
        · subst e; exact (irr _ (h2.1 _ hx)).elim
        · exact e
/-- each fire with the saving ahead of it -/
def chainE (l : List S42) : Int → List S36 → List S36
  | _, [] => []
  | s, f :: fs => ⟨f.f0, f.f1, f.f2, s⟩ :: chainE l ((rd_T42 l f.f0).f6) fs
theorem chainE_len (l : List S42) : ∀ (fs : List S36) (s : Int), (chainE l s fs).length = fs.length := by
  intro fs
  induction fs with
  | nil => intro s; rfl
  | cons f fs ih => intro s; simp [chainE, ih]
def FromE (l : List S42) (a b : Int) : List S36 := chainE l (savedE l (mx a 1)) (SF l (mx a 1) (mn b 9999))
theorem from_l2 (l : List S42) (hl : l.length ≤ 8) : ∀ (todo done : List S36) (s : Int) (k n : Nat), done.length + todo.length = n → n ≤ 1000000 → (∀ f ∈ todo, 0 ≤ f.f0 ∧ f.f0 < (l.length : Int)) →
    expand_From.l2 (k + todo.length + 1) l (done ++ todo) s (n : Int) (done.length : Int) = some (done ++ chainE l s todo) := by
  intro todo
  induction todo with
  | nil =>
    intro done s k n h1 h2 h3
    rw [expand_From.l2, if_neg (by simp at h1; omega)]
    rfl
  | cons f fs ih =>
    intro done s k n h1 h2 h3
    have hn : done.length < n := by simp at h1; omega
    have hrd : rd_T36 (done ++ f :: fs) (done.length : Int) = f := by
      unfold rd_T36
      rw [Int.toNat_natCast, List.getD_eq_getElem?_getD, List.getElem?_append_right (Nat.le_refl _), Nat.sub_self]
      rfl
    obtain ⟨f1, f2⟩ := h3 f (by simp)
    rw [show k + (f :: fs).length + 1 = (k + fs.length + 1) + 1 by simp; omega, expand_From.l2, if_pos (by omega), if_pos (by omega), if_pos (by simp; omega), hrd, if_pos f1, if_pos f2]
    have hset : (done ++ f :: fs).set ((done.length : Int)).toNat (⟨f.f0, f.f1, f.f2, s⟩ : S36) = (done ++ [⟨f.f0, f.f1, f.f2, s⟩]) ++ fs := by
      rw [Int.toNat_natCast, List.set_append_right _ _ (Nat.le_refl _), Nat.sub_self]
      simp
    have hw : wrap64 ((done.length : Int) + 1) = ((done ++ [(⟨f.f0, f.f1, f.f2, s⟩ : S36)]).length : Int) := by
      rw [w64 (by omega) (by omega)]; simp
    rw [hset, hw]
    rw [ih (done ++ [(⟨f.f0, f.f1, f.f2, s⟩ : S36)]) ((rd_T42 l f.f0).f6) k n (by simp at h1 ⊢; omega) h2 (fun g hg => h3 g (by simp [hg]))]
    simp [chainE]
theorem from_l1 (l : List S42) (a b : Int) (i : Nat) (r : S42) (hr : -20000 ≤ r.f2 ∧ r.f2 ≤ 20000) (n2 : Int) : ∀ (n k : Nat) (y : Int) (acc : List S36), (mn b (lastE r) - y + 1).toNat = n → -30000 ≤ y → y ≤ 30000 → 1 ≤ k → acc.length + n ≤ 1000000 →
    expand_From.l1 (k + n + 1) l a b acc (i : Int) y l n2 (i : Int) r.f0 r.f1 r.f2 r.f3 r.f4.f0 r.f4.f1 r.f4.f2 r.f5.f0 r.f5.f1 r.f6 r.f7 = expand_From.l0 k l a b (acc ++ yrs r (i : Int) n y) l n2 (wrap64 ((i : Int) + 1)) := by
  intro n
  induction n with
  | zero =>
    intro k y acc h1 h2 h3 h4 h5
    rw [expand_From.l1, expand_lasting_last.f, Option.bind_some, if_neg (by show ¬ y ≤ mn b (lastE r); omega)]
    simp [yrs]
  | succ n ih =>
    intro k y acc h1 h2 h3 h4 h5
    have h9 := lastE_le r
    rw [show k + (n + 1) + 1 = (k + n + 1) + 1 by omega, expand_From.l1, expand_lasting_last.f, Option.bind_some, if_pos (by show y ≤ mn b (lastE r); omega)]
    obtain ⟨v, hv, hs, hn⟩ := fire_ev (k + n) r (i : Int) y
    rw [hv, Option.bind_some]
    have hm : mn b (lastE r) ≤ 9999 := by rw [mn_eq]; omega
    have hw : wrap64 (y + 1) = y + 1 := w64 (by omega) (by omega)
    cases hf : fireE r y with
    | some t =>
      have e := hs t hf
      rw [e, if_pos rfl, if_pos (by omega), hw, ih k (y + 1) _ (by omega) (by omega) (by omega) h4 (by simp; omega)]
      conv => rhs; unfold yrs
      rw [hf]
      simp
    | none =>
      rw [if_neg (by rw [hn hf]; decide), hw, ih k (y + 1) _ (by omega) (by omega) (by omega) h4 (by omega)]
      conv => rhs; unfold yrs
      rw [hf]
      simp
theorem from_l0 (l : List S42) (hl : lightL l) (a b : Int) (ha : 1 ≤ a ∧ a ≤ 20001) (hb : b - a ≤ 30) : ∀ (m i K : Nat) (acc : List S36), i + m = l.length → m * 40 + 1000 ≤ K → acc ++ flE l a b i m = FE l a b →
    expand_From.l0 K l a b acc l (l.length : Int) (i : Int) = some (chainE l (savedE l a) (SF l a b)) := by
  have h8 := hl.1
  have hcap : (FE l a b).length ≤ 8 * 31 := by
    have h1 := flE_len l a b l.length 0
    have h2 : (b - a + 1).toNat ≤ 31 := by omega
    exact Nat.le_trans h1 (Nat.mul_le_mul h8 h2)
  intro m
  induction m with
  | zero =>
    intro i K acc h1 h2 h3
    have hacc : acc = FE l a b := by simpa [flE] using h3
    obtain ⟨k, rfl⟩ : ∃ j, K = (j + (SF l a b).length + 1) + 1 := ⟨K - (SF l a b).length - 2, by have : (SF l a b).length = (FE l a b).length := sortE_length _; omega⟩
    have hsl : (SF l a b).length = (FE l a b).length := sortE_length _
    rw [expand_From.l0, if_neg (by omega), if_pos (by rw [hacc]; omega), saved_ev _ l hl a (by omega) (by omega), Option.bind_some, hacc]
    have h5 := from_l2 l h8 (SF l a b) [] (savedE l a) k (SF l a b).length (by simp) (by omega) (fun f hf => by
      obtain ⟨j, hj, _, _, _, _, _, e⟩ := (SF_mem l a b f).1 hf
      subst e
      exact ⟨by show (0 : Int) ≤ (j : Int); omega, by show (j : Int) < (l.length : Int); omega⟩)
    exact h5
  | succ m ih =>
    intro i K acc h1 h2 h3
    have hr := hl.2 i (by omega)
    obtain ⟨k, rfl⟩ : ∃ j, K = (j + cnt a b (rd_T42 l (i : Int)) + 1) + 1 := ⟨K - cnt a b (rd_T42 l (i : Int)) - 2, by have := cnt_le a b (rd_T42 l (i : Int)); omega⟩
    have hc := cnt_le a b (rd_T42 l (i : Int))
    have hacc : acc.length ≤ 8 * 31 := by
      have : acc.length + (flE l a b i (m + 1)).length = (FE l a b).length := by rw [← h3, List.length_append]
      omega
    rw [expand_From.l0, if_pos (by omega), if_pos (by omega), if_pos (by omega), expand_lasting_first.f, Option.bind_some]
    have hf : firstE (rd_T42 l (i : Int)) ≤ 20000 := by have := firstE_eq (rd_T42 l (i : Int)); have := hr.2.2.2.2.2.2.1; omega
    have hf0 := firstE_pos (rd_T42 l (i : Int))
    have h5 := from_l1 l a b i (rd_T42 l (i : Int)) ⟨hr.2.2.2.2.2.2.2.1, hr.2.2.2.2.2.2.2.2⟩ (l.length : Int) (cnt a b (rd_T42 l (i : Int))) k (mx a (firstE (rd_T42 l (i : Int)))) acc rfl (by rw [mx_eq]; omega) (by rw [mx_eq]; omega) (by omega) (by omega)
    have hw : wrap64 ((i : Int) + 1) = ((i + 1 : Nat) : Int) := by rw [w64 (by omega) (by omega)]; rfl
    rw [hw] at h5
    refine h5.trans (ih (i + 1) k _ (by omega) (by omega) ?_)
    rw [← h3, List.append_assoc]
    rfl
theorem from_ev (K : Nat) (hK : 1500 ≤ K) (l : List S42) (hl : lightL l) (a b : Int) (ha : -20000 ≤ a ∧ a ≤ 20001) (hb : b - a ≤ 30) : expand_From.f K l a b = some (FromE l a b) := by
  have h8 := hl.1
  have h1 : mx a 1 = max a 1 := mx_eq a 1
  have h2 : mn b 9999 = min b 9999 := mn_eq b 9999
  unfold expand_From.f FromE
  exact from_l0 l hl (mx a 1) (mn b 9999) ⟨by omega, by omega⟩ (by omega) l.length 0 K [] (by omega) (by omega) (by rfl)
theorem year_ev (K : Nat) (hK : 1500 ≤ K) (l : List S42) (hl : lightL l) (y : Int) (hy : -20000 ≤ y ∧ y ≤ 20000) : expand_Year.f K l y = some (FromE l y y) := by
  unfold expand_Year.f
  rw [from_ev K hK l hl y y ⟨hy.1, by omega⟩ (by omega)]
  rfl
end Go.Proofs.Ytlonanlogdokfaa.S
