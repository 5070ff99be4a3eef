/- The statement that what is shown is read as the same fields, of the plain functions. -/
import Derived.Test.YtbhbjlohmalicaaPlainD
import Derived.Test.YtbhbjlohmalicaaS11
namespace Go.Proofs.Ytbhbjlohmalicaa.Pure
open Go.RowKit Go.Proofs.Ytbhbjlohmalicaa.S Go.Proofs.Ytbhbjlohmalicaa.Plain Go.Proofs.YtbhbjlohmalicaaW.PrintWords Go.Proofs.YtbhbjlohmalicaaW.PrintLast
set_option linter.unusedVariables false
set_option linter.unusedSimpArgs false

theorem step_quoted {s : St} (h : 0 ≤ s.q) (i c : Int) : s.step i c = s.quoted c := by unfold St.step; rw [if_pos h]
/-- inside a quote all is text -/
theorem run_in (m : List Int) (hm : ∀ c ∈ m, c ≠ 34) : ∀ (i : Int) (out : List S34) (t : List Int) (a q : Int), 0 ≤ q → run (m ++ [34]) i ⟨out, t, a, q, false⟩ = ⟨out, t ++ m, a, -1, false⟩ := by
  induction m with
  | nil =>
    intro i out t a q hq
    simp only [List.nil_append, run]
    rw [if_neg (by decide), step_quoted (s := ⟨out, t, a, q, false⟩) hq]
    simp [St.quoted]
  | cons c m ih =>
    intro i out t a q hq
    have hc := hm c (by simp)
    simp only [List.cons_append, run]
    rw [if_neg (by decide), step_quoted (s := ⟨out, t, a, q, false⟩) hq]
    have e : (⟨out, t, a, q, false⟩ : St).quoted c = ⟨out, t ++ [c], a, q, false⟩ := by unfold St.quoted; rw [if_neg hc]
    rw [e, ih (fun x hx => hm x (by simp [hx])) (i + 1) out (t ++ [c]) a q hq, List.append_assoc]
    rfl
/-- outside of a quote, bytes that are neither white nor a sign are text -/
theorem run_out (m : List Int) (hm : ∀ c ∈ m, c ≠ 34 ∧ wq c = false) : ∀ (i : Int) (out : List S34) (t : List Int) (a : Int), 0 ≤ a → run m i ⟨out, t, a, -1, false⟩ = ⟨out, t ++ m, a, -1, false⟩ := by
  induction m with
  | nil => intro i out t a ha; simp [run]
  | cons c m ih =>
    intro i out t a ha
    have hc := hm c (by simp)
    have hw : ¬ whB c = true ∧ c ≠ 35 := by
      have := hc.2
      unfold wq at this
      rw [Bool.or_eq_false_iff] at this
      exact ⟨by rw [this.1]; decide, fun h => by rw [h] at this; exact absurd this.2 (by decide)⟩
    simp only [run]
    rw [if_neg (by decide), step_plain (s := ⟨out, t, a, -1, false⟩) (by show (-1 : Int) < 0; decide), plain_o _ _ hw.1 hw.2, if_neg hc.1]
    have ea : ((⟨out, t, a, -1, false⟩ : St).open_ i).a = a := by unfold St.open_; simp only; rw [if_neg (by omega)]
    rw [ea]
    dsimp only
    rw [ih (fun x hx => hm x (by simp [hx])) (i + 1) out (t ++ [c]) a ha, List.append_assoc]
    rfl
theorem bl_no34 (x : ByteArray) (h : has x = false) : ∀ c ∈ bl x, c ≠ 34 := by
  intro c hc he
  unfold has at h
  have : (bl x).any (· == 34) = true := List.any_eq_true.2 ⟨c, hc, by rw [he]; rfl⟩
  rw [this] at h; cases h
/-- a text as it is written leaves the scanner in the text's field -/
theorem run_fb (x : ByteArray) (hx : has x = false) (i : Int) (hi : 0 ≤ i) (out : List S34) : run (fb x) i (idle out) = ⟨out, bl x, i, -1, false⟩ := by
  have h34 := bl_no34 x hx
  unfold fb
  by_cases hq : qd x = true
  · rw [if_pos hq]
    simp only [run]
    rw [if_neg (by simp [idle]), step_plain (s := idle out) (by simp [idle]), plain_o _ _ (by decide) (by decide), if_pos rfl]
    have ea : ((idle out).open_ i).a = i := by unfold St.open_ idle; simp
    rw [ea]
    show run (bl x ++ [34]) (i + 1) ⟨out, [], i, i, false⟩ = _
    rw [run_in (bl x) h34 (i + 1) out [] i i hi]
    rfl
  · rw [if_neg hq]
    unfold qd at hq
    rw [Bool.or_eq_true, not_or] at hq
    have hany : ∀ c ∈ bl x, wq c = false := by
      intro c hc
      by_cases h : wq c = true
      · exact absurd (List.any_eq_true.2 ⟨c, hc, h⟩) hq.2
      · exact Bool.eq_false_iff.2 h
    cases hb : bl x with
    | nil => rw [hb] at hq; exact absurd rfl hq.1
    | cons c m =>
      have hc34 := h34 c (by rw [hb]; simp)
      have hcw := hany c (by rw [hb]; simp)
      have hw : ¬ whB c = true ∧ c ≠ 35 := by
        unfold wq at hcw
        rw [Bool.or_eq_false_iff] at hcw
        exact ⟨by rw [hcw.1]; decide, fun h => by rw [h] at hcw; exact absurd hcw.2 (by decide)⟩
      simp only [run]
      rw [if_neg (by simp [idle]), step_plain (s := idle out) (by simp [idle]), plain_o _ _ hw.1 hw.2, if_neg hc34]
      have ea : ((idle out).open_ i).a = i := by unfold St.open_ idle; simp
      rw [ea]
      show run m (i + 1) ⟨out, [] ++ [c], i, -1, false⟩ = _
      rw [run_out m (fun y hy => ⟨h34 y (by rw [hb]; simp [hy]), hany y (by rw [hb]; simp [hy])⟩) (i + 1) out ([] ++ [c]) i hi]
      rfl
/-- a line of texts: the scanner has a field for each -/
theorem run_sp : ∀ (r : List ByteArray) (x : ByteArray) (i : Int) (out : List S34), 0 ≤ i → has x = false → (∀ y ∈ r, has y = false) →
    ∃ fs : List S34, (run (fb x ++ sp (r.map fb)) i (idle out)).close.out = out ++ fs ∧ fs.map (·.f0) = x :: r ∧ (run (fb x ++ sp (r.map fb)) i (idle out)).q < 0 := by
  intro r
  induction r with
  | nil =>
    intro x i out hi hx hr
    rw [List.map_nil, show sp [] = [] from rfl, List.append_nil, run_fb x hx i hi out]
    refine ⟨[⟨x, i⟩], ?_, rfl, by show (-1 : Int) < 0; decide⟩
    unfold St.close
    simp only
    rw [if_pos hi, str_bl]
  | cons y r ih =>
    intro x i out hi hx hr
    rw [List.map_cons, sp_cons, run_append, run_fb x hx i hi out]
    have e : run (32 :: (fb y ++ sp (r.map fb))) (i + ((fb x).length : Int)) ⟨out, bl x, i, -1, false⟩ = run (fb y ++ sp (r.map fb)) (i + ((fb x).length : Int) + 1) (idle (out ++ [⟨x, i⟩])) := by
      simp only [run]
      rw [if_neg (by decide), step_plain (s := ⟨out, bl x, i, -1, false⟩) (by show (-1 : Int) < 0; decide), plain_w _ _ (by decide)]
      have ec : (⟨out, bl x, i, -1, false⟩ : St).close = idle (out ++ [⟨x, i⟩]) := by
        unfold St.close idle
        simp only
        rw [if_pos hi, str_bl]
      rw [ec]
    rw [e]
    obtain ⟨fs, h1, h2, h3⟩ := ih y (i + ((fb x).length : Int) + 1) (out ++ [⟨x, i⟩]) (by omega) (hr y (by simp)) (fun z hz => hr z (by simp [hz]))
    exact ⟨⟨x, i⟩ :: fs, by rw [h1, List.append_assoc]; rfl, by rw [List.map_cons, h2], h3⟩
theorem fields_jn (l : List ByteArray) (hh : ∀ y ∈ l, has y = false) (hlen : (jn (l.map fb)).length ≤ 200) : ∃ fs : List S34, lexer_Fields.f (strOfNums (jn (l.map fb))) = some (fs, 0, 0) ∧ fs.map (·.f0) = l := by
  have hz := strOfNums_size (jn (l.map fb))
  rw [fields_eq, if_neg (by omega)]
  unfold fin
  rw [bl_str _ (jn_byte l)]
  cases l with
  | nil =>
    rw [if_neg (show ¬ 0 ≤ (run (jn (List.map fb [])) 0 St.init).q from (by decide : ¬ (0 : Int) ≤ -1))]
    exact ⟨[], rfl, rfl⟩
  | cons x r =>
    obtain ⟨fs, h1, h2, h3⟩ := run_sp r x 0 [] (by decide) (hh x (by simp)) (fun z hz => hh z (by simp [hz]))
    have e : run (jn ((x :: r).map fb)) 0 St.init = run (fb x ++ sp (r.map fb)) 0 (idle []) := rfl
    rw [e, if_neg (by omega), h1]
    exact ⟨fs, rfl, h2⟩
theorem lback_l0 (l : List ByteArray) (fs : List S34) (hf : fs.map (·.f0) = l) (hl : l.length ≤ 40) : ∀ (m i K : Nat), i + m = l.length → m + 1 ≤ K → noonmarklaw07_LexerBack.l0 K l fs (i : Int) = some true := by
  have hlen : fs.length = l.length := by rw [← hf, List.length_map]
  intro m
  induction m with
  | zero =>
    intro i K hi hK
    obtain ⟨K, rfl⟩ : ∃ q, K = q + 1 := ⟨K - 1, by omega⟩
    simp only [noonmarklaw07_LexerBack.l0]
    rw [if_neg (by omega), alive_f]; rfl
  | succ m ih =>
    intro i K hi hK
    obtain ⟨K, rfl⟩ : ∃ q, K = q + 1 := ⟨K - 1, by omega⟩
    have h1 : i < l.length := by omega
    have h2 : i < fs.length := by omega
    have e : (fs[i]).f0 = l[i] := by
      subst hf
      rw [List.getElem_map]
    simp only [noonmarklaw07_LexerBack.l0]
    rw [if_pos (by omega), if_pos (by omega), if_pos (by omega), rd34 fs i h2, rd_at l i h1, if_pos (by rw [e]), w64 (by omega) (by omega), show ((i : Int) + 1) = ((i + 1 : Nat) : Int) by omega]
    exact ih (i + 1) K (by omega) (by omega)
theorem LexerBack (l : List ByteArray) : ∃ k, noonmarklaw07_LexerBack.f k l = some true := by
  obtain ⟨K, hK⟩ : ∃ K : Nat, K = 20000 := ⟨_, rfl⟩
  refine ⟨K + 1, ?_⟩
  unfold noonmarklaw07_LexerBack.f
  obtain ⟨b, e, hb⟩ := light_f l (K + 1) (by omega)
  rw [e, Option.bind_some, alive_f]
  cases b with
  | false => rfl
  | true =>
    have hl := hb rfl
    have h40 := hl.1
    have ht : (⟨#[]⟩ : ByteArray).toList = [] := by rw [ByteArray.toList_eq]
    rw [if_pos rfl, eshow_f l hl (K + 1) (by omega), Option.bind_some]
    unfold shown
    by_cases h1 : l.any has = true
    · rw [if_pos h1]
      dsimp only
      rw [if_neg (by decide), if_pos ht]; rfl
    · rw [if_neg h1]
      by_cases h2 : (jn (l.map fb)).length > 200
      · rw [if_pos h2]
        dsimp only
        rw [if_neg (by decide), if_pos ht]; rfl
      · rw [if_neg h2]
        have hh : ∀ y ∈ l, has y = false := by
          intro y hy
          by_cases h : has y = true
          · exact absurd (List.any_eq_true.2 ⟨y, hy, h⟩) h1
          · exact Bool.eq_false_iff.2 h
        obtain ⟨fs, hf, hm⟩ := fields_jn l hh (by omega)
        have hlen : fs.length = l.length := by rw [← hm, List.length_map]
        rw [if_pos rfl, hf, Option.bind_some, if_pos rfl, if_pos rfl, show (((fs.length : Nat) : Int) != (l.length : Int)) = false by rw [hlen]; simp]
        simp only [noonmarklaw07_LexerBack.j0]
        rw [if_neg (by decide)]
        exact lback_l0 l fs hm h40 l.length 0 K (by omega) (by omega)

end Go.Proofs.Ytbhbjlohmalicaa.Pure
