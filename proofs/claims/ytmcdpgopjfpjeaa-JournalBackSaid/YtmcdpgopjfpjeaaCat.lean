/- Frames, one behind the other, and what is read of them. -/
import Derived.Test.YtmcdpgopjfpjeaaCalls
namespace Go.Proofs.Ytmcdpgopjfpjeaa.S
open Go.RowKit Go.Proofs.YtmcdpgopjfpjeaaW.PrintWords Go.Proofs.YtmcdpgopjfpjeaaW.PrintLast Go.Proofs.YtmcdpgopjfpjeaaW.PrintMore
set_option linter.unusedVariables false
set_option linter.unusedSimpArgs false
def fr1 (x : S24) : List Int := frameJ x.f0 x.f1
def catJ (l : List S24) : List Int := (l.map fr1).flatten
/-- records that are framed -/
def Fine (l : List S24) : Prop := ∀ x ∈ l, okJ x.f0 x.f1 = true ∧ Args.Bytes x.f1
theorem catJ_nil : catJ [] = [] := rfl
theorem catJ_cons (x : S24) (l : List S24) : catJ (x :: l) = fr1 x ++ catJ l := rfl
theorem catJ_append (l m : List S24) : catJ (l ++ m) = catJ l ++ catJ m := by unfold catJ; rw [List.map_append, List.flatten_append]
theorem catJ_snoc (l : List S24) (x : S24) : catJ (l ++ [x]) = catJ l ++ fr1 x := by rw [catJ_append]; simp [catJ]
theorem fine_nil : Fine [] := fun _ h => by cases h
theorem fine_snoc {l : List S24} {x : S24} (h : Fine l) (h1 : okJ x.f0 x.f1 = true) (h2 : Args.Bytes x.f1) : Fine (l ++ [x]) := fun y hy => by
  rcases List.mem_append.1 hy with hy | hy
  · exact h y hy
  · rw [List.mem_singleton.1 hy]; exact ⟨h1, h2⟩
theorem catJ_bytes {l : List S24} (h : Fine l) : Args.Bytes (catJ l) := by
  intro b hb
  obtain ⟨s, hs, hb⟩ := List.mem_flatten.1 hb
  obtain ⟨x, hx, rfl⟩ := List.mem_map.1 hs
  exact frameJ_bytes (h x hx).2 b hb
theorem catJ_len {l : List S24} {n : Nat} (h : ∀ x ∈ l, x.f1.length ≤ n) : (catJ l).length ≤ l.length * (n + 10) := by
  induction l with
  | nil => simp [catJ]
  | cons x l ih =>
    rw [catJ_cons, List.length_append, List.length_cons, Nat.succ_mul]
    have h1 := h x (List.mem_cons_self ..)
    have h2 := ih fun y hy => h y (List.mem_cons_of_mem _ hy)
    unfold fr1; rw [frameJ_len]; omega
theorem catJ_len_ge (l : List S24) : l.length ≤ (catJ l).length := by
  induction l with
  | nil => simp
  | cons x l ih => rw [catJ_cons, List.length_append, List.length_cons]; unfold fr1; rw [frameJ_len]; omega
/-- no frame begins there -/
def NoFrame (t : List Int) : Prop := ∀ k c, (0 ≤ k ∧ k ≤ 255) → c.length ≤ 100000 → ¬ frameJ k c <+: t
theorem noFrame_short {t : List Int} (h : t.length < 10) : NoFrame t := fun k c _ _ hp => by
  have := hp.length_le
  rw [frameJ_len] at this
  omega
theorem starts_len {s : List Int} (hB : Args.Bytes s) {k k' : Int} {c c' : List Int} (hc : c.length ≤ 100000) (hc' : c'.length ≤ 100000) (h : Starts s k c) (h' : Starts s k' c') : c.length = c'.length := by
  have h1 := headLen_starts hB hc h
  have h2 := headLen_starts hB hc' h'
  omega
theorem noFrame_part {k : Int} {c : List Int} (hk : 0 ≤ k ∧ k ≤ 255) (hc : c.length ≤ 100000) (hB : Args.Bytes c) {j : Nat} (hj : j < c.length + 10) : NoFrame ((frameJ k c).take j) := fun k' c' hk' hc' hp => by
  have S := starts_of hk hc (List.prefix_refl (frameJ k c))
  have S' := starts_of hk' hc' (hp.trans (List.take_prefix _ _))
  have e := starts_len (frameJ_bytes hB) hc hc' S S'
  have hl := hp.length_le
  rw [frameJ_len, List.length_take] at hl
  omega
theorem reads_cat (t : List Int) (hBt : Args.Bytes t) (ht : NoFrame t) : ∀ (l : List S24), Fine l → ∀ (p : List Int), Args.Bytes p → ∀ (m : Nat) (acc : List S29), l.length + 1 ≤ m →
    readsJ m (p ++ (catJ l ++ t)) p.length acc = some (acc ++ l.map to29, p.length + (catJ l).length) := by
  intro l
  induction l with
  | nil =>
    intro hf p hp m acc hm
    obtain ⟨m, rfl⟩ : ∃ n, m = n + 1 := ⟨m - 1, by simp at hm; omega⟩
    unfold readsJ
    have e : rOneJ (p ++ (catJ [] ++ t)) p.length = none := rone_none (bytes_append hp (bytes_append (fun _ h => by cases h) hBt)) fun k c hk hc S => by
      rw [List.drop_left] at S
      exact ht k c hk hc (starts_prefix S.ht)
    rw [e]
    simp [catJ]
  | cons x l ih =>
    intro hf p hp m acc hm
    obtain ⟨m, rfl⟩ : ∃ n, m = n + 1 := ⟨m - 1, by simp at hm; omega⟩
    have hx := hf x (List.mem_cons_self ..)
    have hl : Fine l := fun y hy => hf y (List.mem_cons_of_mem _ hy)
    obtain ⟨k0, k1, kc⟩ := okJ_spec.1 hx.1
    have hB : Args.Bytes (p ++ (catJ (x :: l) ++ t)) := bytes_append hp (bytes_append (catJ_bytes hf) hBt)
    unfold readsJ
    have e : rOneJ (p ++ (catJ (x :: l) ++ t)) p.length = some (⟨x.f0, x.f1⟩, p.length + x.f1.length + 10) := rOneJ_of hB (by rw [List.length_append]; omega) ⟨k0, k1⟩ kc (by
      rw [List.drop_left, catJ_cons, List.append_assoc]
      exact List.prefix_append _ _)
    rw [e]
    simp only
    have h1 := ih hl (p ++ fr1 x) (bytes_append hp (frameJ_bytes hx.2)) m (acc ++ [⟨x.f0, x.f1⟩]) (by simp at hm; omega)
    have e1 : (p ++ fr1 x).length = p.length + x.f1.length + 10 := by rw [List.length_append]; unfold fr1; rw [frameJ_len]; omega
    rw [e1] at h1
    rw [catJ_cons, show p ++ (fr1 x ++ catJ l ++ t) = p ++ fr1 x ++ (catJ l ++ t) by simp [List.append_assoc], h1]
    congr 2
    · simp [to29]
    · rw [List.length_append]; unfold fr1; rw [frameJ_len]; omega
/-- framed records are read as they were, whatever is behind them, if that begins no frame -/
theorem read_cat {l : List S24} (hl : Fine l) {t : List Int} (hB : Args.Bytes t) (ht : NoFrame t) (h : (catJ l ++ t).length ≤ 100000000) : journal_Read.f (catJ l ++ t) = some (l.map to29, ((catJ l).length : Int)) := by
  unfold journal_Read.f
  have h1 := reads_cat t hB ht l hl [] (fun _ h => by cases h) ((catJ l ++ t).length + 1) [] (by have := catJ_len_ge l; rw [List.length_append]; omega)
  simp only [List.nil_append, List.length_nil, Nat.zero_add] at h1
  rw [if_pos h, h1]
theorem read_cat0 {l : List S24} (hl : Fine l) (h : (catJ l).length ≤ 100000000) : journal_Read.f (catJ l) = some (l.map to29, ((catJ l).length : Int)) := by
  have := read_cat hl (t := []) (fun _ h => by cases h) (noFrame_short (by simp)) (by simpa using h)
  simpa using this
end Go.Proofs.Ytmcdpgopjfpjeaa.S
