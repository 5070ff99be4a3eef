/- What the printed helpers of the lexer's laws answer; white ahead and a note behind; two lines joined; columns that rise. -/
import Derived.Test.YtbhbjlohmalicaaPlain
import Derived.OpenShut
namespace Go.Proofs.Ytbhbjlohmalicaa.Plain
open Go.RowKit Go.Proofs.Ytbhbjlohmalicaa.S Go.Proofs.YtbhbjlohmalicaaW.PrintWords Go.Proofs.YtbhbjlohmalicaaW.PrintLast
set_option linter.unusedVariables false
set_option linter.unusedSimpArgs false

theorem alive_fields : lexer_Fields.f (⟨#[97, 32, 34, 98, 32, 99, 34, 100, 32, 35, 32, 101]⟩ : ByteArray) = some ([⟨⟨#[97]⟩, 0⟩, ⟨⟨#[98, 32, 99, 100]⟩, 2⟩], 0, 0) := by kernel_rfl
theorem alive_f : noonmarklaw07_alive.f = some true := by
  unfold noonmarklaw07_alive.f
  rw [alive_fields]
  simp [rd_T34, ByteArray.toList_eq]
theorem rwhite_f (c : Int) : noonmarkref07_white.f c = some (whB c) := by
  unfold noonmarkref07_white.f whB
  by_cases h1 : c = 32
  · rw [if_pos h1]; simp [h1]
  · rw [if_neg h1]
    by_cases h2 : c ≥ 9
    · rw [if_pos h2]; simp [h1, h2]
    · rw [if_neg h2]; simp [h1, h2]

/-! lists of fields -/
def cv (f : S34) : S49 := ⟨f.f0, f.f1⟩
theorem rd34 (l : List S34) (i : Nat) (h : i < l.length) : rd_T34 l i = l[i] := by
  unfold rd_T34; rw [Int.toNat_natCast]; simp [List.getD_eq_getElem?_getD, h]
theorem rd49 (l : List S49) (i : Nat) (h : i < l.length) : rd_T49 l i = l[i] := by
  unfold rd_T49; rw [Int.toNat_natCast]; simp [List.getD_eq_getElem?_getD, h]
theorem back_l0 (l : List S34) (hl : l.length ≤ 100000) (j : Nat) : ∀ (k i : Nat), i + j = l.length → j < k → noonmarklaw07_Back.l0 k l ((l.take i).map cv) i = some (l.map cv) := by
  induction j with
  | zero =>
    intro k i hi hk
    obtain ⟨k, rfl⟩ : ∃ m, k = m + 1 := ⟨k - 1, by omega⟩
    simp only [noonmarklaw07_Back.l0]
    rw [if_neg (by omega), List.take_of_length_le (by omega)]
  | succ j ih =>
    intro k i hi hk
    obtain ⟨k, rfl⟩ : ∃ m, k = m + 1 := ⟨k - 1, by omega⟩
    simp only [noonmarklaw07_Back.l0]
    rw [if_pos (by omega), if_pos (by omega), if_pos (by simp; omega), rd34 l i (by omega)]
    have e1 : wrap64 ((i : Int) + 1) = ((i + 1 : Nat) : Int) := by rw [w64 (by omega) (by omega)]; omega
    have e2 : (l.take i).map cv ++ [(⟨(l[i]'(by omega)).f0, (l[i]'(by omega)).f1⟩ : S49)] = (l.take (i + 1)).map cv := by
      rw [List.take_succ_eq_append_getElem (by omega), List.map_append]; rfl
    rw [e1, e2]
    exact ih k (i + 1) (by omega) (by omega)
theorem back_f (l : List S34) (hl : l.length ≤ 100000) (k : Nat) (hk : l.length < k) : noonmarklaw07_Back.f k l = some (l.map cv) := by
  unfold noonmarklaw07_Back.f
  have := back_l0 l hl l.length k 0 (by omega) hk
  simpa using this
theorem same_l0 (l : List S49) (hl : l.length ≤ 100000) (j : Nat) : ∀ (k i : Nat), i + j = l.length → j < k → noonmarkref07_Same.l0 k l l i = some true := by
  induction j with
  | zero =>
    intro k i hi hk
    obtain ⟨k, rfl⟩ : ∃ m, k = m + 1 := ⟨k - 1, by omega⟩
    simp only [noonmarkref07_Same.l0]
    rw [if_neg (by omega)]
  | succ j ih =>
    intro k i hi hk
    obtain ⟨k, rfl⟩ : ∃ m, k = m + 1 := ⟨k - 1, by omega⟩
    simp only [noonmarkref07_Same.l0]
    have e1 : wrap64 ((i : Int) + 1) = ((i + 1 : Nat) : Int) := by rw [w64 (by omega) (by omega)]; omega
    rw [if_pos (by omega), if_pos (by omega), if_pos (by omega), if_neg (by simp), e1]
    exact ih k (i + 1) (by omega) (by omega)
theorem same_f (l : List S49) (hl : l.length ≤ 100000) (k : Nat) (hk : l.length < k) : noonmarkref07_Same.f k l l = some true := by
  unfold noonmarkref07_Same.f
  rw [if_pos rfl]
  exact same_l0 l hl l.length k 0 (by omega) hk

/-! white ahead, a note behind -/
theorem close_of_no {s : St} (h : s.a < 0) : s.close = ⟨s.out, [], -1, s.q, s.n⟩ := by unfold St.close; rw [if_neg (by omega)]
theorem init_white (n : Nat) : ∀ (i : Int), run (List.replicate n 9) i St.init = St.init := by
  induction n with
  | zero => intro i; rfl
  | succ n ih =>
    intro i
    simp only [List.replicate_succ, run]
    rw [if_neg (by simp [St.init])]
    have : St.init.step i 9 = St.init := by unfold St.step St.plain; simp [St.init, whB, St.close]
    rw [this]; exact ih _
theorem sh_init (d : Int) : sh d St.init = St.init := by simp [sh, St.init, up]
/-- behind white and a # nothing is read any more, and the fields are those that were there -/
theorem run_note (m : List Int) (i : Int) (s : St) (hq : s.q < 0) : (run (32 :: 35 :: m) i s).q < 0 ∧ (run (32 :: 35 :: m) i s).close.out = s.close.out := by
  simp only [run]
  by_cases hn : s.n = true
  · rw [if_pos hn]; exact ⟨hq, rfl⟩
  · rw [if_neg hn]
    have e1 : s.step i 32 = s.close := by unfold St.step St.plain; rw [if_neg (by omega), if_pos (by decide)]
    rw [e1]
    have e2 : s.close.n = s.n := rfl
    rw [e2, if_neg hn]
    have e3 : s.close.step (i + 1) 35 = ⟨s.close.close.out, [], -1, s.close.q, true⟩ := by
      unfold St.step St.plain
      rw [if_neg (by rw [St.close_q]; omega), if_neg (by decide), if_pos rfl]
    rw [e3, run_stop _ _ _ rfl]
    refine ⟨by rw [St.close_q]; exact hq, ?_⟩
    have e4 : s.close.close.out = s.close.out := by rw [close_of_no (s := s.close) (by rw [St.close_a]; omega)]
    have e5 : (⟨s.close.close.out, [], -1, s.close.q, true⟩ : St).close.out = s.close.close.out := by rw [close_of_no (s := ⟨s.close.close.out, [], -1, s.close.q, true⟩) (show (-1 : Int) < 0 by decide)]
    rw [e5, e4]
theorem white_fin (b x : ByteArray) (n : Nat) (hq : (fin b).q < 0) (c : ByteArray) (hc : bl c = List.replicate n 9 ++ (bl b ++ (32 :: 35 :: bl x))) :
    (fin c).q < 0 ∧ (fin c).close.out = (fin b).close.out.map (shF n) := by
  have e : fin c = run (32 :: 35 :: bl x) ((n : Int) + (bl b).length) (sh n (fin b)) := by
    unfold fin
    rw [hc, run_append, init_white, run_append, List.length_replicate]
    have := sh_run n (by omega) (bl b) 0 St.init (by omega)
    rw [sh_init] at this
    rw [Int.zero_add] at this ⊢
    rw [this]
  rw [e]
  have h2 : (sh n (fin b)).q < 0 := by
    show up n (fin b).q < 0
    unfold up; rw [if_neg (by omega)]; exact hq
  have := run_note (bl x) ((n : Int) + (bl b).length) (sh n (fin b)) h2
  refine ⟨this.1, ?_⟩
  rw [this.2, sh_close n (by omega)]; rfl

/-! two lines joined -/
theorem joins_fin (a b c : ByteArray) (ha : ∀ x ∈ bl a, x ≠ 35) (hc : bl c = bl a ++ (32 :: bl b)) (hqa : (fin a).q < 0) (hqb : (fin b).q < 0) :
    (fin c).q < 0 ∧ (fin c).close.out = (fin a).close.out ++ (fin b).close.out.map (shF (a.size + 1)) := by
  have hn : (fin a).n = false := by unfold fin; rw [run_n _ ha]; rfl
  have hqa' : -1 = (fin a).q ∨ (fin a).q < 0 := Or.inr hqa
  have e : fin c = run (bl b) ((a.size : Int) + 1) (fin a).close := by
    show run (bl c) 0 St.init = _
    rw [hc, run_append]
    show run (32 :: bl b) (0 + (bl a).length) (fin a) = _
    simp only [run]
    rw [if_neg (by rw [hn]; simp), bl_len, Int.zero_add]
    have : (fin a).step (a.size : Int) 32 = (fin a).close := by unfold St.step St.plain; rw [if_neg (by omega), if_pos (by decide)]
    rw [this]
  -- q of a line that is no longer in a quote is -1
  have e2 : (fin a).close = pre (fin a).close.out ⟨[], [], -1, (fin a).q, false⟩ := by
    unfold pre St.close; simp [hn]
  -- what is below 0 as q acts as -1
  have qn : ∀ (l : List Int) (i : Int) (o : List S34) (t : List Int) (x q q' : Int) (n : Bool), q < 0 → q' < 0 →
      ((run l i ⟨o, t, x, q, n⟩).out = (run l i ⟨o, t, x, q', n⟩).out ∧ (run l i ⟨o, t, x, q, n⟩).text = (run l i ⟨o, t, x, q', n⟩).text ∧ (run l i ⟨o, t, x, q, n⟩).a = (run l i ⟨o, t, x, q', n⟩).a ∧
        ((run l i ⟨o, t, x, q, n⟩).q < 0 ↔ (run l i ⟨o, t, x, q', n⟩).q < 0)) := by
    intro l
    induction l with
    | nil => intro i o t x q q' n h1 h2; simp [run]; omega
    | cons c r ih =>
      intro i o t x q q' n h1 h2
      simp only [run]
      by_cases hn : n = true
      · rw [if_pos hn, if_pos hn]; simp; omega
      · rw [if_neg hn, if_neg hn]
        unfold St.step
        simp only
        rw [if_neg (by omega), if_neg (by omega)]
        unfold St.plain St.close St.open_
        simp only
        by_cases w1 : whB c = true
        · rw [if_pos w1, if_pos w1]; exact ih _ _ _ _ _ _ _ h1 h2
        · rw [if_neg w1, if_neg w1]
          by_cases w2 : c = 35
          · rw [if_pos w2, if_pos w2]; exact ih _ _ _ _ _ _ _ h1 h2
          · rw [if_neg w2, if_neg w2]
            by_cases w3 : c = 34
            · rw [if_pos w3, if_pos w3]; exact ⟨rfl, rfl, rfl, Iff.rfl⟩
            · rw [if_neg w3, if_neg w3]; exact ih _ _ _ _ _ _ _ h1 h2
  have e3 := qn (bl b) ((a.size : Int) + 1) [] [] (-1) (fin a).q (-1) false hqa (by omega)
  have e4 : run (bl b) ((a.size : Int) + 1) ⟨[], [], -1, -1, false⟩ = sh ((a.size : Int) + 1) (fin b) := by
    have := sh_run ((a.size : Int) + 1) (by omega) (bl b) 0 St.init (by omega)
    rw [sh_init, Int.zero_add] at this
    exact this
  rw [e4] at e3
  have e6 : fin c = pre (fin a).close.out (run (bl b) ((a.size : Int) + 1) ⟨[], [], -1, (fin a).q, false⟩) := by rw [e]; exact (congrArg (run (bl b) _) e2).trans (pre_run _ _ _ _)
  rw [e6]
  refine ⟨?_, ?_⟩
  · show (run (bl b) ((a.size : Int) + 1) ⟨[], [], -1, (fin a).q, false⟩).q < 0
    rw [e3.2.2.2]
    show up _ (fin b).q < 0
    unfold up; rw [if_neg (by omega)]; exact hqb
  · rw [pre_close]
    show (fin a).close.out ++ (run (bl b) ((a.size : Int) + 1) ⟨[], [], -1, (fin a).q, false⟩).close.out = _
    congr 1
    have : (run (bl b) ((a.size : Int) + 1) ⟨[], [], -1, (fin a).q, false⟩).close.out = (sh ((a.size : Int) + 1) (fin b)).close.out := by
      unfold St.close
      simp only [e3.1, e3.2.1, e3.2.2.1]
    rw [this, sh_close _ (by omega)]
    rfl

/-! columns rise -/
def goodC (c : Int) : Prop := c ≠ 32 ∧ c ≠ 35 ∧ ¬ (9 ≤ c ∧ c ≤ 13)
structure Inv (b : ByteArray) (i : Int) (s : St) : Prop where
  outs : ∀ f ∈ s.out, 0 ≤ f.f1 ∧ f.f1 < i ∧ goodC (bt b f.f1)
  rise : s.out.Pairwise (fun x y => x.f1 < y.f1)
  at_ : 0 ≤ s.a → s.a < i ∧ goodC (bt b s.a) ∧ ∀ f ∈ s.out, f.f1 < s.a
  quo : 0 ≤ s.q → s.q < i ∧ bt b s.q = 34
theorem Inv.later {b : ByteArray} {i j : Int} {s : St} (h : Inv b i s) (hij : i ≤ j) : Inv b j s :=
  ⟨fun f hf => ⟨(h.outs f hf).1, by have := (h.outs f hf).2.1; omega, (h.outs f hf).2.2⟩, h.rise, fun ha => ⟨by have := (h.at_ ha).1; omega, (h.at_ ha).2⟩, fun hq => ⟨by have := (h.quo hq).1; omega, (h.quo hq).2⟩⟩
theorem Inv.close {b : ByteArray} {i : Int} {s : St} (h : Inv b i s) : Inv b i s.close := by
  by_cases ha : 0 ≤ s.a
  · have e : s.close = ⟨s.out ++ [⟨strOfNums s.text, s.a⟩], [], -1, s.q, s.n⟩ := by unfold St.close; rw [if_pos ha]
    rw [e]
    have g := h.at_ ha
    refine ⟨fun f hf => ?_, ?_, fun h1 => absurd h1 (by simp), h.quo⟩
    · rcases List.mem_append.mp hf with hf | hf
      · exact h.outs f hf
      · rw [List.mem_singleton.mp hf]; exact ⟨ha, g.1, g.2.1⟩
    · rw [List.pairwise_append]
      refine ⟨h.rise, List.pairwise_singleton _ _, fun x hx y hy => ?_⟩
      rw [List.mem_singleton.mp hy]; exact g.2.2 x hx
  · have e : s.close = ⟨s.out, [], -1, s.q, s.n⟩ := by unfold St.close; rw [if_neg ha]
    rw [e]
    exact ⟨h.outs, h.rise, fun h1 => absurd h1 (by simp), h.quo⟩
theorem Inv.step {b : ByteArray} {i : Int} {s : St} (h : Inv b i s) (hi : 0 ≤ i) : Inv b (i + 1) (s.step i (bt b i)) := by
  have hl := h.later (show i ≤ i + 1 by omega)
  unfold St.step
  by_cases hq : 0 ≤ s.q
  · rw [if_pos hq]
    unfold St.quoted
    by_cases hc : bt b i = 34
    · rw [if_pos hc]; exact ⟨hl.outs, hl.rise, hl.at_, fun h1 => absurd h1 (by simp)⟩
    · rw [if_neg hc]; exact ⟨hl.outs, hl.rise, hl.at_, hl.quo⟩
  · rw [if_neg hq]
    unfold St.plain
    have hcl := hl.close
    by_cases w1 : whB (bt b i) = true
    · rw [if_pos w1]; exact hcl
    · rw [if_neg w1]
      by_cases w2 : bt b i = 35
      · rw [if_pos w2]; exact ⟨hcl.outs, hcl.rise, fun h1 => absurd h1 (by simp), hl.quo⟩
      · rw [if_neg w2]
        have hg : goodC (bt b i) := by
          unfold whB at w1
          simp at w1
          exact ⟨w1.1, w2, by omega⟩
        have ha : 0 ≤ (s.open_ i).a → (s.open_ i).a < i + 1 ∧ goodC (bt b (s.open_ i).a) ∧ ∀ f ∈ s.out, f.f1 < (s.open_ i).a := by
          unfold St.open_
          simp only
          by_cases h0 : s.a < 0
          · rw [if_pos h0]; exact fun _ => ⟨by omega, hg, fun f hf => (h.outs f hf).2.1⟩
          · rw [if_neg h0]; exact hl.at_
        by_cases w3 : bt b i = 34
        · rw [if_pos w3]; exact ⟨hl.outs, hl.rise, ha, fun _ => ⟨by simp; omega, w3⟩⟩
        · rw [if_neg w3]; exact ⟨hl.outs, hl.rise, ha, hl.quo⟩
theorem inv_run (b : ByteArray) : ∀ (k i : Nat) (s : St), i + k = b.size → Inv b i s → Inv b b.size (run ((bl b).drop i) i s) := by
  intro k
  induction k with
  | zero => intro i s h hI; rw [bl_end b i (by omega)]; exact hI.later (by omega)
  | succ k ih =>
    intro i s h hI
    rw [bl_drop b i (by omega)]
    simp only [run]
    split
    · exact hI.later (by omega)
    · exact ih (i + 1) _ (by omega) (hI.step (by omega))
theorem inv_fin (b : ByteArray) : Inv b b.size (fin b) := by
  have := inv_run b b.size 0 St.init (by omega) ⟨by simp [St.init], by simp [St.init], fun h => absurd h (by simp [St.init]), fun h => absurd h (by simp [St.init])⟩
  rw [List.drop_zero] at this
  exact this
end Go.Proofs.Ytbhbjlohmalicaa.Plain
