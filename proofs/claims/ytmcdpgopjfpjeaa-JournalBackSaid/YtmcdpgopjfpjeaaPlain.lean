/- The plain functions of chapter 29's helpers: what they answer, in plain Lean. -/
import Derived.Test.YtmcdpgopjfpjeaaS6
import Derived.Test.YtmcdpgopjfpjeaaS7
import Derived.Test.YtmcdpgopjfpjeaaArgs
namespace Go.Proofs.Ytmcdpgopjfpjeaa.S
open Go.RowKit Go.Proofs.YtmcdpgopjfpjeaaW.PrintWords Go.Proofs.YtmcdpgopjfpjeaaW.PrintLast Go.Proofs.YtmcdpgopjfpjeaaW.PrintMore
set_option linter.unusedVariables false
set_option linter.unusedSimpArgs false
theorem w64_succ (i n : Nat) (h : i < n) (hn : n ≤ 9223372036854775807) : wrap64 ((i : Int) + 1) = ((i + 1 : Nat) : Int) := (wrap64_in' (by omega) (by omega)).trans (by omega)
theorem zero_nat : (0 : Int) = ((0 : Nat) : Int) := rfl
theorem rd_at (l : List Int) (i : Nat) (h : i < l.length) : rd l (i : Int) = l[i] := by simp [rd, h]
theorem rd24_at (l : List S24) (i : Nat) (h : i < l.length) : rd_T24 l (i : Int) = l[i] := by simp [rd_T24, h]
theorem rd29_at (l : List S29) (i : Nat) (h : i < l.length) : rd_T29 l (i : Int) = l[i] := by simp [rd_T29, h]
/-! the bytes of two slices -/
theorem same01_loop (l : List Int) (hl : l.length ≤ 9223372036854775807) : ∀ (d i k : Nat), l.length - i = d → i ≤ l.length → d < k → noonmarkref01_Same.l0 k l l (i : Int) = some true := by
  intro d
  induction d with
  | zero =>
    intro i k hd hi hk
    obtain ⟨k, rfl⟩ : ∃ m, k = m + 1 := ⟨k - 1, by omega⟩
    conv => lhs; unfold noonmarkref01_Same.l0
    rw [if_neg (by omega)]
  | succ d ih =>
    intro i k hd hi hk
    obtain ⟨k, rfl⟩ : ∃ m, k = m + 1 := ⟨k - 1, by omega⟩
    conv => lhs; unfold noonmarkref01_Same.l0
    rw [if_pos (by omega), if_pos (by omega), if_pos (by omega), if_pos rfl, w64_succ i l.length (by omega) hl]
    exact ih (i + 1) k (by omega) (by omega) (by omega)
theorem same01_refl (l : List Int) (hl : l.length ≤ 9223372036854775807) (k : Nat) (hk : l.length < k) : noonmarkref01_Same.f k l l = some true := by
  unfold noonmarkref01_Same.f
  rw [if_pos rfl, zero_nat]
  exact same01_loop l hl l.length 0 k (by omega) (by omega) hk
/-! records -/
def wid (l : List S24) : Nat := l.foldr (fun x n => max x.f1.length n) 0
theorem wid_le {l : List S24} {x : S24} (h : x ∈ l) : x.f1.length ≤ wid l := by
  induction l with
  | nil => cases h
  | cons y r ih =>
    rcases List.mem_cons.1 h with rfl | h
    · exact Nat.le_max_left _ _
    · exact Nat.le_trans (ih h) (Nat.le_max_right _ _)
theorem same29_loop (l : List S24) (hl : l.length ≤ 9223372036854775807) (hw : ∀ x ∈ l, x.f1.length ≤ 9223372036854775807) : ∀ (d i k : Nat), l.length - i = d → i ≤ l.length → wid l + d + 1 < k → noonmarkref29_Same.l0 k l l (i : Int) = some true := by
  intro d
  induction d with
  | zero =>
    intro i k hd hi hk
    obtain ⟨k, rfl⟩ : ∃ m, k = m + 1 := ⟨k - 1, by omega⟩
    conv => lhs; unfold noonmarkref29_Same.l0
    rw [if_neg (by omega)]
  | succ d ih =>
    intro i k hd hi hk
    obtain ⟨k, rfl⟩ : ∃ m, k = m + 1 := ⟨k - 1, by omega⟩
    have hm : l[i]'(by omega) ∈ l := List.getElem_mem _
    conv => lhs; unfold noonmarkref29_Same.l0
    rw [if_pos (by omega), if_pos (by omega), if_pos (by omega), if_pos rfl, rd24_at l i (by omega), same01_refl _ (hw _ hm) k (by have := wid_le hm; omega), Option.bind_some, if_pos rfl, w64_succ i l.length (by omega) hl]
    exact ih (i + 1) k (by omega) (by omega) (by omega)
theorem same29_refl (l : List S24) (hl : l.length ≤ 9223372036854775807) (hw : ∀ x ∈ l, x.f1.length ≤ 9223372036854775807) (k : Nat) (hk : wid l + l.length + 1 < k) : noonmarkref29_Same.f k l l = some true := by
  unfold noonmarkref29_Same.f
  rw [if_pos rfl, zero_nat]
  exact same29_loop l hl hw l.length 0 k (by omega) (by omega) hk
def lightB (l : List S24) (n : Int) : Bool := decide ((l.length : Int) ≤ n) && l.all fun x => decide ((x.f1.length : Int) ≤ 300)
theorem light_loop (l : List S24) (hl : l.length ≤ 9223372036854775807) : ∀ (d i k : Nat), l.length - i = d → i ≤ l.length → d < k → noonmarklaw29_Light.l0 k l (i : Int) = some ((l.drop i).all fun x => decide ((x.f1.length : Int) ≤ 300)) := by
  intro d
  induction d with
  | zero =>
    intro i k hd hi hk
    obtain ⟨k, rfl⟩ : ∃ m, k = m + 1 := ⟨k - 1, by omega⟩
    conv => lhs; unfold noonmarklaw29_Light.l0
    rw [if_neg (by omega), List.drop_of_length_le (by omega)]
    rfl
  | succ d ih =>
    intro i k hd hi hk
    obtain ⟨k, rfl⟩ : ∃ m, k = m + 1 := ⟨k - 1, by omega⟩
    conv => lhs; unfold noonmarklaw29_Light.l0
    rw [if_pos (by omega), if_pos (by omega), rd24_at l i (by omega), w64_succ i l.length (by omega) hl, List.drop_eq_getElem_cons (by omega), List.all_cons]
    by_cases h : (l[i].f1.length : Int) > 300
    · rw [if_pos h, decide_eq_false (by omega)]; rfl
    · rw [if_neg h, decide_eq_true (by omega), Bool.true_and]
      exact ih (i + 1) k (by omega) (by omega) (by omega)
theorem light_ev (l : List S24) (hl : l.length ≤ 9223372036854775807) (n : Int) (k : Nat) (hk : l.length < k) : noonmarklaw29_Light.f k l n = some (lightB l n) := by
  unfold noonmarklaw29_Light.f lightB
  by_cases h : (l.length : Int) > n
  · rw [if_pos h, decide_eq_false (by omega)]; rfl
  · rw [if_neg h, decide_eq_true (by omega), Bool.true_and, zero_nat, light_loop l hl l.length 0 k (by omega) (by omega) hk, List.drop_zero]
theorem lightB_spec {l : List S24} {n : Int} (h : lightB l n = true) : (l.length : Int) ≤ n ∧ ∀ x ∈ l, x.f1.length ≤ 300 := by
  unfold lightB at h
  simp only [Bool.and_eq_true, decide_eq_true_eq, List.all_eq_true] at h
  exact ⟨h.1, fun x hx => by have := h.2 x hx; omega⟩
def to29 (x : S24) : S29 := ⟨x.f0, x.f1⟩
def to24 (x : S29) : S24 := ⟨x.f0, x.f1⟩
theorem back_loop (l : List S29) (hl : l.length ≤ 4398046511104) : ∀ (d i k : Nat) (acc : List S24), l.length - i = d → i ≤ l.length → acc.length = i → d < k → noonmarklaw29_Back.l0 k l acc (i : Int) = some (acc ++ (l.drop i).map to24) := by
  intro d
  induction d with
  | zero =>
    intro i k acc hd hi ha hk
    obtain ⟨k, rfl⟩ : ∃ m, k = m + 1 := ⟨k - 1, by omega⟩
    conv => lhs; unfold noonmarklaw29_Back.l0
    rw [if_neg (by omega), List.drop_of_length_le (by omega)]
    simp
  | succ d ih =>
    intro i k acc hd hi ha hk
    obtain ⟨k, rfl⟩ : ∃ m, k = m + 1 := ⟨k - 1, by omega⟩
    conv => lhs; unfold noonmarklaw29_Back.l0
    rw [if_pos (by omega), if_pos (by omega), if_pos (by omega), rd29_at l i (by omega), w64_succ i l.length (by omega) (by omega), ih (i + 1) k _ (by omega) (by omega) (by simp; omega) (by omega)]
    rw [List.drop_eq_getElem_cons (show i < l.length by omega), List.map_cons, List.append_assoc]
    rfl
theorem back_ev (l : List S29) (hl : l.length ≤ 4398046511104) (k : Nat) (hk : l.length < k) : noonmarklaw29_Back.f k l = some (l.map to24) := by
  unfold noonmarklaw29_Back.f
  rw [zero_nat, back_loop l hl l.length 0 k [] (by omega) (by omega) rfl hk]
  simp
/-! Compact -/
def lastR (l : List S24) : Nat → Nat → Nat
  | 0, m => m
  | k + 1, m => lastR l k (if (rd_T24 l ((l.length - 1 - k : Nat) : Int)).f0 = 0 then l.length - 1 - k else m)
theorem rcompact_loop (l : List S24) (hl : l.length ≤ 9223372036854775807) : ∀ (d i k m : Nat), l.length - i = d → i ≤ l.length → m ≤ l.length → d < k → noonmarkref29_Compact.l0 k l (m : Int) (i : Int) = some (l.drop (lastR l d m)) := by
  intro d
  induction d with
  | zero =>
    intro i k m hd hi hm hk
    obtain ⟨k, rfl⟩ : ∃ m, k = m + 1 := ⟨k - 1, by omega⟩
    conv => lhs; unfold noonmarkref29_Compact.l0
    rw [if_neg (by omega), if_pos (by omega), if_pos (by omega)]
    rfl
  | succ d ih =>
    intro i k m hd hi hm hk
    obtain ⟨k, rfl⟩ : ∃ m, k = m + 1 := ⟨k - 1, by omega⟩
    have hi' : l.length - 1 - d = i := by omega
    conv => lhs; unfold noonmarkref29_Compact.l0
    unfold lastR
    rw [if_pos (by omega), if_pos (by omega), w64_succ i l.length (by omega) hl, hi']
    by_cases h : (rd_T24 l (i : Int)).f0 = 0
    · rw [if_pos h, if_pos h]; exact ih (i + 1) k i (by omega) (by omega) (by omega) (by omega)
    · rw [if_neg h, if_neg h]; exact ih (i + 1) k m (by omega) (by omega) hm (by omega)
theorem rcompact_ev (l : List S24) (hl : l.length ≤ 9223372036854775807) (k : Nat) (hk : l.length < k) : noonmarkref29_Compact.f k l = some (l.drop (lastR l l.length 0)) := by
  unfold noonmarkref29_Compact.f
  have := rcompact_loop l hl l.length 0 k 0 (by omega) (by omega) (by omega) hk
  simpa using this
theorem lastR_mono (l : List S24) : ∀ (k : Nat), k ≤ l.length → ∀ m, (lastR l k m = m ∧ ∀ j, l.length - k ≤ j → j < l.length → (rd_T24 l (j : Int)).f0 ≠ 0) ∨ (l.length - k ≤ lastR l k m ∧ lastR l k m < l.length ∧ (rd_T24 l (lastR l k m : Int)).f0 = 0 ∧ ∀ j, lastR l k m < j → j < l.length → (rd_T24 l (j : Int)).f0 ≠ 0)
  | 0, _, m => .inl ⟨rfl, fun j h1 h2 => by omega⟩
  | k + 1, hk, m => by
    unfold lastR
    by_cases h : (rd_T24 l ((l.length - 1 - k : Nat) : Int)).f0 = 0
    · rw [if_pos h]
      rcases lastR_mono l k (by omega) (l.length - 1 - k) with ⟨h1, h2⟩ | ⟨h1, h2, h3, h4⟩
      · rw [h1]; exact .inr ⟨by omega, by omega, h, fun j hj1 hj2 => h2 j (by omega) hj2⟩
      · exact .inr ⟨by omega, h2, h3, h4⟩
    · rw [if_neg h]
      rcases lastR_mono l k (by omega) m with ⟨h1, h2⟩ | ⟨h1, h2, h3, h4⟩
      · refine .inl ⟨h1, fun j hj1 hj2 => ?_⟩
        rcases Nat.lt_or_ge j (l.length - k) with e | e
        · have : j = l.length - 1 - k := by omega
          rw [this]; exact h
        · exact h2 j e hj2
      · exact .inr ⟨by omega, h2, h3, h4⟩
theorem rd29_map (l : List S24) (i : Nat) (h : i < l.length) : rd_T29 (l.map to29) (i : Int) = to29 (rd_T24 l (i : Int)) := by
  rw [rd29_at _ i (by simpa using h), rd24_at l i h, List.getElem_map]
theorem pcompact_ev (l : List S24) (hl : l.length ≤ 4398046511104) : journal_Compact.f (l.map to29) = some ((l.drop (lastR l l.length 0)).map to29) := by
  unfold journal_Compact.f
  rw [if_pos (by simpa using hl), List.length_map]
  rcases lastR_mono l l.length (Nat.le_refl _) 0 with ⟨h1, h2⟩ | ⟨h1, h2, h3, h4⟩
  · rw [h1, lastZ_none _ (fun i hi => by rw [rd29_map l i hi]; exact h2 i (by omega) hi), List.drop_zero]
  · rw [lastZ_some _ (lastR l l.length 0) h2 (by rw [rd29_map l _ h2]; exact h3) (fun j hj1 hj2 => by rw [rd29_map l j hj2]; exact h4 j hj1 hj2), List.map_drop]
theorem to24_to29 (l : List S24) : (l.map to29).map to24 = l := by
  rw [List.map_map]; conv => rhs; rw [← List.map_id l]
  rfl
theorem alive_f : noonmarklaw29_alive.f = some true := rfl
theorem compacts_loop (l : List S24) (hl : l.length ≤ 30) (hw : ∀ x ∈ l, x.f1.length ≤ 300) : ∀ (d i k : Nat) (acc : List S29), l.length - i = d → i ≤ l.length → acc = (l.take i).map to29 → d + wid l + l.length + 2 < k → noonmarklaw29_JournalCompacts.l0 k l acc (i : Int) = some true := by
  intro d
  induction d with
  | zero =>
    intro i k acc hd hi ha hk
    obtain ⟨k, rfl⟩ : ∃ m, k = m + 1 := ⟨k - 1, by omega⟩
    have hacc : acc = l.map to29 := by rw [ha, List.take_of_length_le (by omega)]
    have hdl : (l.drop (lastR l l.length 0)).length ≤ l.length := by rw [List.length_drop]; omega
    have hwd : wid (l.drop (lastR l l.length 0)) ≤ wid l := by
      have : ∀ (m : List S24), (∀ x ∈ m, x ∈ l) → wid m ≤ wid l := by
        intro m hm
        induction m with
        | nil => exact Nat.zero_le _
        | cons y r ih => exact Nat.max_le.2 ⟨wid_le (hm y (List.mem_cons_self ..)), ih (fun x hx => hm x (List.mem_cons_of_mem _ hx))⟩
      exact this _ (fun x hx => List.mem_of_mem_drop hx)
    conv => lhs; unfold noonmarklaw29_JournalCompacts.l0
    rw [if_neg (by omega), hacc, pcompact_ev l (by omega), Option.bind_some, back_ev _ (by rw [List.length_map]; omega) k (by rw [List.length_map]; omega), Option.bind_some, to24_to29, rcompact_ev l (by omega) k (by omega), Option.bind_some,
      same29_refl _ (by omega) (fun x hx => by have := hw x (List.mem_of_mem_drop hx); omega) k (by omega), Option.bind_some, if_pos rfl]
    rfl
  | succ d ih =>
    intro i k acc hd hi ha hk
    obtain ⟨k, rfl⟩ : ∃ m, k = m + 1 := ⟨k - 1, by omega⟩
    conv => lhs; unfold noonmarklaw29_JournalCompacts.l0
    rw [if_pos (by omega), if_pos (by omega), rd24_at l i (by omega)]
    unfold noonmarklaw29_Own.f
    rw [Option.bind_some, if_pos (by rw [ha, List.length_map, List.length_take]; omega), w64_succ i l.length (by omega) (by omega)]
    refine ih (i + 1) k _ (by omega) (by omega) ?_ (by omega)
    rw [ha, List.take_succ_eq_append_getElem (by omega), List.map_append]
    rfl
theorem compacts_pure (l : List S24) (hl : l.length ≤ 9223372036854775807) : ∃ k, noonmarklaw29_JournalCompacts.f k l = some true := by
  refine ⟨l.length + l.length + wid l + l.length + 4, ?_⟩
  unfold noonmarklaw29_JournalCompacts.f
  rw [light_ev l hl 30 _ (by omega), Option.bind_some]
  by_cases h : lightB l 30 = true
  · obtain ⟨h1, h2⟩ := lightB_spec h
    rw [if_pos h, zero_nat]
    exact compacts_loop l (by omega) h2 l.length 0 _ [] (by omega) (by omega) rfl (by omega)
  · rw [if_neg h]; rfl
theorem journalCompacts_any (A : Option Addr) (c : Nat) (l : List S24) (w : World) (hc : l.length ≤ c) (hC : Kd.C k24 w A l.length l) (_ : Args.Recs l) : Calls Try.prog 5 #[.slice A l.length c] w fun e w' => e = .returned (.bool true) ∧ Below w.heap.size w w' := by
  obtain ⟨k, hk⟩ := compacts_pure l (Kd.C_max hC)
  exact noonmarklaw29_JournalCompacts.calls k A c l true w hC hc hk
end Go.Proofs.Ytmcdpgopjfpjeaa.S
