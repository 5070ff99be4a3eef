/- What the reference of chapter 14 answers: the fires of a year. -/
import Derived.Test.YtlonanlogdokfaaPlD
import Derived.Test.YtlonanlogdokfaaFactsB
import Derived.Test.YtlonanlogdokfaaS12
namespace Go.Proofs.Ytlonanlogdokfaa.S
open Go.RowKit Go.Proofs.Ytlonanlogdokfaa.Facts Go.Proofs.Ytlonanlogdokfaa.Cal
open Go.Proofs.YtlonanlogdokfaaW.PrintWords Go.Proofs.YtlonanlogdokfaaW.PrintLast Go.Proofs.YtlonanlogdokfaaW.PrintMore
set_option linter.unusedVariables false
set_option linter.unusedSimpArgs false
theorem rright06_ev (k : Nat) (d : S38) : noonmarkref06_Right.f (k + 2) d.f0 d.f1 d.f2 = some (rightD d) := by
  unfold noonmarkref06_Right.f rightD
  have j1 : ∀ (day week : Bool), noonmarkref06_Right.j1 (k + 1) day week d.f0 d.f1 d.f2 = some (if d.f0 = 0 then day && (d.f2 == 0) else if d.f0 = 1 then week && (d.f1 == 0) else if d.f0 = 2 then day && week else if d.f0 = 3 then day && week else false) := by
    intro day week
    rw [noonmarkref06_Right.j1]
    by_cases c0 : d.f0 = 0
    · rw [if_pos c0, if_pos c0]; cases day <;> rfl
    by_cases c1 : d.f0 = 1
    · rw [if_neg c0, if_neg c0, if_pos c1, if_pos c1]; cases week <;> rfl
    by_cases c2 : d.f0 = 2
    · rw [if_neg c0, if_neg c0, if_neg c1, if_neg c1, if_pos c2, if_pos c2]; cases day <;> rfl
    by_cases c3 : d.f0 = 3
    · rw [if_neg c0, if_neg c0, if_neg c1, if_neg c1, if_neg c2, if_neg c2, if_pos c3, if_pos c3]; cases day <;> rfl
    rw [if_neg c0, if_neg c0, if_neg c1, if_neg c1, if_neg c2, if_neg c2, if_neg c3, if_neg c3]
  have j0 : ∀ (day : Bool), noonmarkref06_Right.j0 (k + 2) day d.f0 d.f1 d.f2 = some (if d.f0 = 0 then day && (d.f2 == 0) else if d.f0 = 1 then decide (0 ≤ d.f2 ∧ d.f2 ≤ 6) && (d.f1 == 0) else if d.f0 = 2 then day && decide (0 ≤ d.f2 ∧ d.f2 ≤ 6) else if d.f0 = 3 then day && decide (0 ≤ d.f2 ∧ d.f2 ≤ 6) else false) := by
    intro day
    rw [noonmarkref06_Right.j0]
    by_cases c : d.f2 ≥ 0
    · rw [if_pos c, j1, show decide (0 ≤ d.f2 ∧ d.f2 ≤ 6) = decide (d.f2 ≤ 6) from by rw [decide_eq_decide]; omega]
    · rw [if_neg c, j1, show decide (0 ≤ d.f2 ∧ d.f2 ≤ 6) = false from decide_eq_false (by omega)]
  have key : ∀ day : Bool, day = decide (1 ≤ d.f1 ∧ d.f1 ≤ 31) → (some (if d.f0 = 0 then day && (d.f2 == 0) else if d.f0 = 1 then decide (0 ≤ d.f2 ∧ d.f2 ≤ 6) && (d.f1 == 0) else if d.f0 = 2 then day && decide (0 ≤ d.f2 ∧ d.f2 ≤ 6) else if d.f0 = 3 then day && decide (0 ≤ d.f2 ∧ d.f2 ≤ 6) else false) : Option Bool) =
      some (decide (0 ≤ d.f0 ∧ d.f0 ≤ 3 ∧ 0 ≤ d.f2 ∧ d.f2 ≤ 6) && (if d.f0 = 1 then decide (d.f1 = 0) else (decide (1 ≤ d.f1 ∧ d.f1 ≤ 31) && (decide (0 < d.f0) || decide (d.f2 = 0))))) := by
    rintro day rfl
    congr 1
    rw [Bool.eq_iff_iff]
    by_cases c0 : d.f0 = 0
    · simp [c0]; omega
    by_cases c1 : d.f0 = 1
    · simp [c1]
    by_cases c2 : d.f0 = 2
    · simp [c2]; omega
    by_cases c3 : d.f0 = 3
    · simp [c3]; omega
    simp [c0, c1, c2, c3]
    omega
  by_cases c : d.f1 ≥ 1
  · rw [if_pos c, j0]
    exact key _ (by rw [decide_eq_decide]; omega)
  · rw [if_neg c, j0]
    exact key _ (decide_eq_false (by omega)).symm
theorem bne_week {a b : Int} : (a != b) = decide (a ≠ b) := by
  by_cases h : a = b <;> simp [h]
theorem of06_up (d : S38) (h2 : d.f0 = 2) (hw : 0 ≤ d.f2 ∧ d.f2 ≤ 6) : ∀ (a k : Nat) (n i : Int), aheadD d n = a → 0 ≤ i → i + a ≤ 6 → -5000000 - i ≤ n → n ≤ 5000000 + i → 2 * a + 2 ≤ k →
    noonmarkref06_Of.l0 k n i d.f0 d.f1 d.f2 = some (n + a, 0) := by
  intro a
  induction a with
  | zero =>
    intro k n i h1 h3 h4 h5 h6 h7
    obtain ⟨k, rfl⟩ : ∃ j, k = j + 2 := ⟨k - 2, by omega⟩
    unfold aheadD at h1
    rw [noonmarkref06_Of.l0, if_pos (by omega), rweek_f, Option.bind_some, bne_week, decide_eq_false (by omega), noonmarkref06_Of.j3, if_neg (by decide)]
    simp
  | succ a ih =>
    intro k n i h1 h3 h4 h5 h6 h7
    obtain ⟨k, rfl⟩ : ∃ j, k = j + 2 := ⟨k - 2, by omega⟩
    unfold aheadD at h1
    have hw1 : wrap64 (n + 1) = n + 1 := w64 (by omega) (by omega)
    have hw2 : wrap64 (i + 1) = i + 1 := w64 (by omega) (by omega)
    rw [noonmarkref06_Of.l0, if_pos (by omega), rweek_f, Option.bind_some, bne_week, decide_eq_true (by omega), noonmarkref06_Of.j3, if_pos rfl, if_pos h2, hw1, hw2, ih k (n + 1) (i + 1) (by unfold aheadD; omega) (by omega) (by omega) (by omega) (by omega) (by omega)]
    congr 2
    omega
theorem of06_down (d : S38) (h2 : d.f0 ≠ 2) (hw : 0 ≤ d.f2 ∧ d.f2 ≤ 6) : ∀ (a k : Nat) (n i : Int), (7 - aheadD d n) % 7 = a → 0 ≤ i → i + a ≤ 6 → -5000000 - i ≤ n → n ≤ 5000000 + i → 2 * a + 2 ≤ k →
    noonmarkref06_Of.l0 k n i d.f0 d.f1 d.f2 = some (n - a, 0) := by
  intro a
  induction a with
  | zero =>
    intro k n i h1 h3 h4 h5 h6 h7
    obtain ⟨k, rfl⟩ : ∃ j, k = j + 2 := ⟨k - 2, by omega⟩
    unfold aheadD at h1
    rw [noonmarkref06_Of.l0, if_pos (by omega), rweek_f, Option.bind_some, bne_week, decide_eq_false (by omega), noonmarkref06_Of.j3, if_neg (by decide)]
    simp
  | succ a ih =>
    intro k n i h1 h3 h4 h5 h6 h7
    obtain ⟨k, rfl⟩ : ∃ j, k = j + 2 := ⟨k - 2, by omega⟩
    unfold aheadD at h1
    have hw1 : wrap64 (n - 1) = n - 1 := w64 (by omega) (by omega)
    have hw2 : wrap64 (i + 1) = i + 1 := w64 (by omega) (by omega)
    rw [noonmarkref06_Of.l0, if_pos (by omega), rweek_f, Option.bind_some, bne_week, decide_eq_true (by omega), noonmarkref06_Of.j3, if_pos rfl, if_neg h2, hw1, hw2, ih k (n - 1) (i + 1) (by unfold aheadD; omega) (by omega) (by omega) (by omega) (by omega) (by omega)]
    congr 2
    omega
theorem of06_ev (k : Nat) (hk : 600 ≤ k) (d : S38) (y m : Int) : noonmarkref06_Of.f k d.f0 d.f1 d.f2 y m = some (if rightD d = true then (if vld y m (atD d y m) = true then (dayD d y m, 0) else (0, 6)) else (0, 1)) := by
  obtain ⟨k, rfl⟩ : ∃ j, k = j + 2 := ⟨k - 2, by omega⟩
  unfold noonmarkref06_Of.f
  rw [rright06_ev, Option.bind_some]
  by_cases hr : rightD d = true
  · rw [if_pos hr, if_pos hr, rlong_f, Option.bind_some, rright_f, Option.bind_some]
    have hrd := hr
    unfold rightD at hrd
    rw [Bool.and_eq_true, decide_eq_true_eq] at hrd
    obtain ⟨hwk, hdd⟩ := hrd
    have hv : vld y m (atD d y m) = true ↔ (vld y m 1 = true ∧ d.f1 ≤ dim y m) := by
      rw [vld_iff, vld_iff]
      unfold atD
      by_cases c1 : d.f0 = 1
      · rw [if_pos c1] at hdd ⊢
        have h0 : d.f1 = 0 := by simpa using hdd
        constructor
        · rintro ⟨a, b, c, e, f, g⟩; exact ⟨⟨a, b, c, e, by omega, f⟩, by omega⟩
        · rintro ⟨⟨a, b, c, e, f, g⟩, h⟩; exact ⟨a, b, c, e, g, Int.le_refl _⟩
      · rw [if_neg c1] at hdd ⊢
        have h0 : 1 ≤ d.f1 := by
          rw [Bool.and_eq_true, decide_eq_true_eq] at hdd
          exact hdd.1.1
        constructor
        · rintro ⟨a, b, c, e, f, g⟩; exact ⟨⟨a, b, c, e, by omega, by omega⟩, g⟩
        · rintro ⟨⟨a, b, c, e, f, g⟩, h⟩; exact ⟨a, b, c, e, h0, h⟩
    by_cases h1 : vld y m 1 = true
    · rw [if_pos h1]
      by_cases h2 : d.f1 > dim y m
      · rw [decide_eq_true h2, noonmarkref06_Of.j0, if_pos rfl, if_neg (fun h => by have := (hv.1 h).2; omega)]
      · have hvt := hv.2 ⟨h1, by omega⟩
        rw [decide_eq_false h2, noonmarkref06_Of.j0, if_neg (by decide), if_pos hvt]
        have hj1 : noonmarkref06_Of.j1 (k + 1) y m (atD d y m) d.f0 d.f1 d.f2 = some (dayD d y m, 0) := by
          rw [noonmarkref06_Of.j1, rdays_f y m (atD d y m) k (by omega), Option.bind_some, if_pos hvt]
          have hb := num_bd hvt
          unfold dayD
          generalize num y m (atD d y m) = n at hb ⊢
          by_cases c0 : d.f0 = 0
          · rw [if_pos c0, if_pos c0]
          rw [if_neg c0, if_neg c0]
          have ha : 0 ≤ aheadD d n ∧ aheadD d n < 7 := by unfold aheadD; omega
          by_cases c2 : d.f0 = 2
          · rw [if_pos c2]
            have := of06_up d c2 ⟨hwk.2.2.1, hwk.2.2.2⟩ (aheadD d n).toNat k n 0 (by omega) (by omega) (by omega) (by omega) (by omega) (by omega)
            rw [show ((aheadD d n).toNat : Int) = aheadD d n by omega] at this
            exact this
          · rw [if_neg c2]
            have := of06_down d c2 ⟨hwk.2.2.1, hwk.2.2.2⟩ ((7 - aheadD d n) % 7).toNat k n 0 (by omega) (by omega) (by omega) (by omega) (by omega) (by omega)
            rw [show (((7 - aheadD d n) % 7).toNat : Int) = (7 - aheadD d n) % 7 by omega] at this
            exact this
        unfold atD at hj1
        by_cases c1 : d.f0 = 1
        · rw [if_pos c1] at hj1 ⊢; exact hj1
        · rw [if_neg c1] at hj1 ⊢; exact hj1
    · rw [if_neg h1, noonmarkref06_Of.j0, if_pos rfl, if_neg (fun h => h1 (hv.1 h).1)]
  · rw [if_neg hr, if_neg hr]

/-! the fires of a year, put in one by one -/
/-- is a fire ahead of another one of its year? -/
def befE (g f : S36) : Bool := decide (g.f2 < f.f2 ∨ (g.f2 = f.f2 ∧ g.f0 < f.f0))
theorem before_ev (g f : S36) : noonmarkref14_before.f (toR g).f0 (toR g).f1 (toR g).f2 (toR g).f3 f.f0 f.f1 f.f2 f.f3 = some (befE g f) := by
  unfold noonmarkref14_before.f befE toR
  dsimp only
  by_cases h1 : g.f2 < f.f2
  · rw [if_pos h1, decide_eq_true (.inl h1)]
  · rw [if_neg h1]
    by_cases h2 : g.f2 = f.f2
    · rw [if_pos h2]
      congr 1
      rw [decide_eq_decide]
      omega
    · rw [if_neg h2, decide_eq_false (by omega)]
def insG (l : List S36) (f : S36) : List S36 := l.takeWhile (befE · f) ++ [f] ++ l.dropWhile (befE · f)
def yearS (l : List S42) (y : Int) : Nat → List S36
  | 0 => []
  | n + 1 => match fireE (rd_T42 l (n : Int)) y with | some t => insG (yearS l y n) ⟨(n : Int), y, t, 0⟩ | none => yearS l y n
theorem insG_mem (l : List S36) (f g : S36) : g ∈ insG l f ↔ g = f ∨ g ∈ l := by
  unfold insG
  have h : g ∈ l ↔ g ∈ l.takeWhile (befE · f) ∨ g ∈ l.dropWhile (befE · f) := by
    rw [← List.mem_append, List.takeWhile_append_dropWhile]
  rw [h]
  simp only [List.mem_append, List.mem_singleton]
  constructor
  · rintro ((a | a) | a)
    · exact .inr (.inl a)
    · exact .inl a
    · exact .inr (.inr a)
  · rintro (a | a | a)
    · exact .inl (.inr a)
    · exact .inl (.inl a)
    · exact .inr a
theorem insG_len (l : List S36) (f : S36) : (insG l f).length = l.length + 1 := by
  unfold insG
  have h := congrArg List.length (List.takeWhile_append_dropWhile (p := (befE · f)) (l := l))
  rw [List.length_append] at h
  rw [List.length_append, List.length_append, List.length_singleton]
  omega
theorem yearS_len (l : List S42) (y : Int) : ∀ n, (yearS l y n).length ≤ n := by
  intro n
  induction n with
  | zero => simp [yearS]
  | succ n ih =>
    unfold yearS
    cases fireE (rd_T42 l (n : Int)) y with
    | none => simp only; omega
    | some t => simp only; rw [insG_len]; omega
theorem yearS_mem (l : List S42) (y : Int) (f : S36) : ∀ n, f ∈ yearS l y n ↔ ∃ j : Nat, j < n ∧ ∃ t, fireE (rd_T42 l (j : Int)) y = some t ∧ f = ⟨(j : Int), y, t, 0⟩ := by
  intro n
  induction n with
  | zero =>
    unfold yearS
    constructor
    · intro h; simp at h
    · rintro ⟨j, h, _⟩; omega
  | succ n ih =>
    unfold yearS
    cases hf : fireE (rd_T42 l (n : Int)) y with
    | none =>
      simp only
      rw [ih]
      constructor
      · rintro ⟨j, h, t, h2⟩; exact ⟨j, by omega, t, h2⟩
      · rintro ⟨j, h, t, h2, h3⟩
        by_cases e : j = n
        · subst e; rw [hf] at h2; simp at h2
        · exact ⟨j, by omega, t, h2, h3⟩
    | some t =>
      simp only
      rw [insG_mem, ih]
      constructor
      · rintro (h | ⟨j, h, t', h2⟩)
        · exact ⟨n, by omega, t, hf, h⟩
        · exact ⟨j, by omega, t', h2⟩
      · rintro ⟨j, h, t', h2, h3⟩
        by_cases e : j = n
        · subst e
          rw [hf] at h2
          simp only [Option.some.injEq] at h2
          subst h2
          exact .inl h3
        · exact .inr ⟨j, by omega, t', h2, h3⟩
theorem drop_all (f : S36) : ∀ (l : List S36), l.Pairwise LT → (∀ g ∈ l, g.f1 = f.f1) → ∀ g ∈ l.dropWhile (befE · f), befE g f = false := by
  intro l
  induction l with
  | nil => intro _ _ g hg; simp at hg
  | cons a t ih =>
    intro hp hy g hg
    rw [List.pairwise_cons] at hp
    rw [List.dropWhile_cons] at hg
    by_cases h : befE a f = true
    · rw [if_pos h] at hg
      exact ih hp.2 (fun g hg => hy g (by simp [hg])) g hg
    · rw [if_neg h] at hg
      rcases List.mem_cons.1 hg with e | e
      · subst e; simpa using h
      · have h1 := hp.1 g e
        have h2 := hy a (by simp)
        have h3 := hy g (by simp [e])
        unfold befE at h ⊢
        rw [LT_iff] at h1
        rw [decide_eq_true_eq] at h
        rw [decide_eq_false_iff_not]
        omega
theorem take_all (f : S36) : ∀ (l : List S36), ∀ g ∈ l.takeWhile (befE · f), befE g f = true := by
  intro l
  induction l with
  | nil => intro g hg; simp at hg
  | cons a t ih =>
    intro g hg
    rw [List.takeWhile_cons] at hg
    by_cases h : befE a f = true
    · rw [if_pos h] at hg
      rcases List.mem_cons.1 hg with e | e
      · subst e; exact h
      · exact ih g e
    · rw [if_neg h] at hg; simp at hg
theorem yearS_pw (l : List S42) (y : Int) : ∀ n, (yearS l y n).Pairwise LT := by
  intro n
  induction n with
  | zero => simp [yearS]
  | succ n ih =>
    unfold yearS
    cases hf : fireE (rd_T42 l (n : Int)) y with
    | none => exact ih
    | some t =>
      simp only
      unfold insG
      have hy : ∀ g ∈ yearS l y n, g.f1 = y := fun g hg => by obtain ⟨j, _, t', _, rfl⟩ := (yearS_mem l y g n).1 hg; rfl
      have hI : ∀ g ∈ yearS l y n, g.f0 < (n : Int) := fun g hg => by obtain ⟨j, hj, t', _, rfl⟩ := (yearS_mem l y g n).1 hg; show (j : Int) < (n : Int); omega
      have hall := List.takeWhile_append_dropWhile (p := (befE · (⟨(n : Int), y, t, 0⟩ : S36))) (l := yearS l y n)
      have hp2 := ih
      rw [← hall, List.pairwise_append] at hp2
      have hsubT : ∀ g ∈ (yearS l y n).takeWhile (befE · (⟨(n : Int), y, t, 0⟩ : S36)), g ∈ yearS l y n := fun g hg => by rw [← hall]; exact List.mem_append_left _ hg
      have hsubD : ∀ g ∈ (yearS l y n).dropWhile (befE · (⟨(n : Int), y, t, 0⟩ : S36)), g ∈ yearS l y n := fun g hg => by rw [← hall]; exact List.mem_append_right _ hg
      rw [List.append_assoc, List.pairwise_append]
      refine ⟨hp2.1, ?_, ?_⟩
      · show List.Pairwise LT ((⟨(n : Int), y, t, 0⟩ : S36) :: (yearS l y n).dropWhile (befE · (⟨(n : Int), y, t, 0⟩ : S36)))
        rw [List.pairwise_cons]
        refine ⟨fun g hg => ?_, hp2.2.1⟩
        have h1 := drop_all ⟨(n : Int), y, t, 0⟩ _ ih (fun g hg => hy g hg) g hg
        have h2 := hy g (hsubD g hg)
        have h3 := hI g (hsubD g hg)
        unfold befE at h1
        rw [decide_eq_false_iff_not] at h1
        rw [LT_iff]
        dsimp only at *
        omega
      · intro g hg h hh
        have h1 := take_all ⟨(n : Int), y, t, 0⟩ _ g hg
        have h2 := hy g (hsubT g hg)
        have h3 := hI g (hsubT g hg)
        unfold befE at h1
        rw [decide_eq_true_eq] at h1
        rcases List.mem_cons.1 hh with e | e
        · subst e; rw [LT_iff]; dsimp only at *; omega
        · exact hp2.2.2 g hg h e
theorem yearS_SF (l : List S42) (y : Int) : yearS l y l.length = SF l y y := by
  refine uniqE _ _ (yearS_pw _ _ _) (SF_pw _ _ _) fun f => ?_
  rw [yearS_mem, SF_mem]
  constructor
  · rintro ⟨j, hj, t, h1, h2⟩; exact ⟨j, hj, y, t, Int.le_refl _, Int.le_refl _, h1, h2⟩
  · rintro ⟨j, hj, x, t, h1, h2, h3, h4⟩
    have e : x = y := by omega
    subst e
    exact ⟨j, hj, t, h3, h4⟩
theorem insE_ins (l : List S36) (f : S36) : insE (l.map toR) ((l.takeWhile (befE · f)).length : Int) (toR f) = (insG l f).map toR := by
  unfold insE insG
  have hall := List.takeWhile_append_dropWhile (p := (befE · f)) (l := l)
  rw [Int.toNat_natCast, ← List.map_take, ← List.map_drop]
  have h1 : l.take (l.takeWhile (befE · f)).length = l.takeWhile (befE · f) := by
    conv => lhs; arg 2; rw [← hall]
    exact List.take_left
  have h2 : l.drop (l.takeWhile (befE · f)).length = l.dropWhile (befE · f) := by
    conv => lhs; arg 2; rw [← hall]
    exact List.drop_left
  rw [h1, h2]
  simp
theorem year_l1 (l : List S42) (y : Int) (i : Int) (acc : List S36) (f : S36) (hacc : acc.length ≤ 1000) : ∀ (todo done : List S36) (k : Nat), acc = done ++ todo →
    noonmarkref14_year.l1 (k + todo.length + 1) l y (acc.map toR) i (done.length : Int) f.f0 f.f1 f.f2 f.f3 = noonmarkref14_year.l0 (k + (todo.dropWhile (befE · f)).length) l y (insE (acc.map toR) ((done.length + (todo.takeWhile (befE · f)).length : Nat) : Int) (toR f)) (wrap64 (i + 1)) := by
  intro todo
  induction todo with
  | nil =>
    intro done k h
    have hd : done.length = acc.length := by rw [h]; simp
    rw [noonmarkref14_year.l1, if_neg (by rw [List.length_map]; omega), if_pos (by rw [List.length_map]; omega), if_pos (by rw [List.length_map]; omega)]
    rfl
  | cons a t ih =>
    intro done k h
    have hd : done.length + (t.length + 1) = acc.length := by rw [h]; simp
    have hrd : rd_T47 (acc.map toR) (done.length : Int) = toR a := by
      rw [h]
      unfold rd_T47
      rw [Int.toNat_natCast, List.getD_eq_getElem?_getD, List.getElem?_map, List.getElem?_append_right (Nat.le_refl _), Nat.sub_self]
      rfl
    rw [show k + (a :: t).length + 1 = (k + t.length + 1) + 1 by simp; omega, noonmarkref14_year.l1, if_pos (by rw [List.length_map]; omega), if_pos (by omega), hrd, before_ev, Option.bind_some]
    by_cases hb : befE a f = true
    · have hw : wrap64 ((done.length : Int) + 1) = ((done ++ [a]).length : Int) := by
        rw [w64 (by omega) (by omega)]; simp
      rw [if_pos hb, hw, ih (done ++ [a]) k (by rw [h]; simp), List.takeWhile_cons, if_pos hb, List.dropWhile_cons, if_pos hb]
      congr 3
      simp
      omega
    · rw [if_neg hb, if_pos (by rw [List.length_map]; omega), List.takeWhile_cons, if_neg hb, List.dropWhile_cons, if_neg hb]
      rfl
theorem year_l0R (l : List S42) (h8 : l.length ≤ 8) (y : Int) : ∀ (m i k : Nat), i + m = l.length → m * 40 + 700 ≤ k → noonmarkref14_year.l0 k l y ((yearS l y i).map toR) (i : Int) = some ((yearS l y l.length).map toR) := by
  intro m
  induction m with
  | zero =>
    intro i k h1 h2
    obtain ⟨k, rfl⟩ : ∃ j, k = j + 1 := ⟨k - 1, by omega⟩
    rw [noonmarkref14_year.l0, if_neg (by omega), show i = l.length by omega]
  | succ m ih =>
    intro i k h1 h2
    obtain ⟨k, rfl⟩ : ∃ j, k = j + 2 := ⟨k - 2, by omega⟩
    have hw : wrap64 ((i : Int) + 1) = ((i + 1 : Nat) : Int) := by rw [w64 (by omega) (by omega)]; rfl
    have hno : fireE (rd_T42 l (i : Int)) y = none → noonmarkref14_year.l0 k l y ((yearS l y i).map toR) (wrap64 ((i : Int) + 1)) = some ((yearS l y l.length).map toR) := by
      intro hn
      rw [hw]
      have : yearS l y (i + 1) = yearS l y i := by
        conv => lhs; unfold yearS
        rw [hn]
      rw [← this]
      exact ih (i + 1) k (by omega) (by omega)
    rw [noonmarkref14_year.l0, if_pos (by omega), if_pos (by omega)]
    by_cases c1 : y < (rd_T42 l (i : Int)).f1
    · rw [if_pos c1, noonmarkref14_year.j1, if_pos rfl]
      exact hno (fireE_low (by rw [firstE_eq]; omega))
    by_cases c2 : y > (rd_T42 l (i : Int)).f2
    · rw [if_neg c1, if_pos c2, noonmarkref14_year.j1, if_pos rfl]
      exact hno (fireE_high (by rw [lastE_eq]; omega))
    by_cases c3 : y < 1
    · rw [if_neg c1, if_neg c2, if_pos c3, noonmarkref14_year.j1, if_pos rfl]
      exact hno (fireE_low (by rw [firstE_eq]; omega))
    rw [if_neg c1, if_neg c2, if_neg c3]
    by_cases c4 : y > 9999
    · rw [decide_eq_true c4, noonmarkref14_year.j1, if_pos rfl]
      exact hno (fireE_high (by rw [lastE_eq]; omega))
    have hin : firstE (rd_T42 l (i : Int)) ≤ y ∧ y ≤ lastE (rd_T42 l (i : Int)) := by rw [firstE_eq, lastE_eq]; omega
    rw [decide_eq_false c4, noonmarkref14_year.j1, if_neg (by decide), if_pos (by omega), if_pos (by omega), of06_ev k (by omega), Option.bind_some]
    by_cases hok : okD (rd_T42 l (i : Int)).f4 y (rd_T42 l (i : Int)).f3 = true
    · have hfe : fireE (rd_T42 l (i : Int)) y = some (wrap64 (wrap64 (dayD (rd_T42 l (i : Int)).f4 y (rd_T42 l (i : Int)).f3 * 86400) + (rd_T42 l (i : Int)).f5.f0)) := by
        unfold fireE
        rw [if_pos ⟨hin.1, hin.2, hok⟩]
      unfold okD at hok
      rw [Bool.and_eq_true] at hok
      rw [if_pos hok.1, if_pos hok.2, if_pos rfl]
      generalize wrap64 (wrap64 (dayD (rd_T42 l (i : Int)).f4 y (rd_T42 l (i : Int)).f3 * 86400) + (rd_T42 l (i : Int)).f5.f0) = t at hfe ⊢
      have hlen := yearS_len l y i
      obtain ⟨k', rfl⟩ : ∃ j, k = j + (yearS l y i).length + 1 := ⟨k - (yearS l y i).length - 1, by omega⟩
      have h5 := year_l1 l y (i : Int) (yearS l y i) ⟨(i : Int), y, t, 0⟩ (by omega) (yearS l y i) [] k' rfl
      refine h5.trans ?_
      rw [show (([] : List S36).length + ((yearS l y i).takeWhile (befE · (⟨(i : Int), y, t, 0⟩ : S36))).length : Nat) = ((yearS l y i).takeWhile (befE · (⟨(i : Int), y, t, 0⟩ : S36))).length from by simp, insE_ins, hw]
      have : yearS l y (i + 1) = insG (yearS l y i) ⟨(i : Int), y, t, 0⟩ := by
        conv => lhs; unfold yearS
        rw [hfe]
      rw [← this]
      exact ih (i + 1) _ (by omega) (by omega)
    · have hn : fireE (rd_T42 l (i : Int)) y = none := by
        unfold fireE
        rw [if_neg (show ¬ (firstE (rd_T42 l (i : Int)) ≤ y ∧ y ≤ lastE (rd_T42 l (i : Int)) ∧ okD (rd_T42 l (i : Int)).f4 y (rd_T42 l (i : Int)).f3 = true) from fun h => hok h.2.2)]
      have hk2 : ∀ v : Int × Int, v.2 ≠ 0 → (if v.2 = 0 then noonmarkref14_year.l1 k l y ((yearS l y i).map toR) (i : Int) 0 (i : Int) y (wrap64 (wrap64 (v.1 * 86400) + (rd_T42 l (i : Int)).f5.f0)) 0 else noonmarkref14_year.l0 k l y ((yearS l y i).map toR) (wrap64 ((i : Int) + 1))) = some ((yearS l y l.length).map toR) := fun v hv => by
        rw [if_neg hv]; exact hno hn
      refine hk2 _ ?_
      unfold okD at hok
      by_cases h4 : rightD (rd_T42 l (i : Int)).f4 = true
      · rw [if_pos h4]
        by_cases h5 : vld y (rd_T42 l (i : Int)).f3 (atD (rd_T42 l (i : Int)).f4 y (rd_T42 l (i : Int)).f3) = true
        · exact absurd (by rw [h4, h5]; rfl) hok
        · rw [if_neg h5]; decide
      · rw [if_neg h4]; decide
theorem yearR_ev (k : Nat) (hk : 1100 ≤ k) (l : List S42) (h8 : l.length ≤ 8) (y : Int) : noonmarkref14_year.f k l y = some ((SF l y y).map toR) := by
  unfold noonmarkref14_year.f
  rw [← yearS_SF]
  exact year_l0R l h8 y l.length 0 k (by omega) (by omega)
end Go.Proofs.Ytlonanlogdokfaa.S
