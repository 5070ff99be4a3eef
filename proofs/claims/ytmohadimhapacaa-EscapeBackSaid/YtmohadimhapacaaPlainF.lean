/- What Unquote reads was written by Quote. -/
import Derived.Test.YtmohadimhapacaaPlainC
import Derived.OpenShut
namespace Go.Proofs.Ytmohadimhapacaa.Plain
open Go.RowKit Go.Proofs.Ytmohadimhapacaa.S Go.Proofs.YtmohadimhapacaaW.PrintWords Go.Proofs.YtmohadimhapacaaW.PrintLast
set_option linter.unusedVariables false
set_option linter.unusedSimpArgs false

theorem unq_ok (s : ByteArray) : ∀ (n a : Nat) (acc l : List Int) (z : Int), a ≤ s.size → unq n s (a : Int) acc = .ok (l, z) →
    ∃ (m : List Int) (b : Nat), l = acc ++ m ∧ z = b ∧ b ≤ s.size ∧ (bl s).drop a = flat m ++ 34 :: (bl s).drop b ∧ ∀ c ∈ m, 0 ≤ c ∧ c < 256 := by
  intro n
  induction n with
  | zero => intro a acc l z ha h; cases h
  | succ n ih =>
    intro a acc l z ha h
    have hat := pOne_eq s a ha
    simp only [unq] at h
    cases hp : pOne ((bl s).drop a) with
    | error k => rw [hp] at hat; simp only [At] at hat; rw [hat] at h; cases h
    | ok x =>
      obtain ⟨c, b, r⟩ := x
      rw [hp] at hat
      obtain ⟨a', hr, hd, ha'⟩ := hat
      have hok := one_ok _ (drop_byte s a) c b r hp
      rw [hr] at h
      cases b with
      | true =>
        simp only at h
        injection h with h; injection h with h1 h2
        exact ⟨[], a', by rw [← h1]; simp, h2.symm, ha', by rw [hok.1 rfl, hd]; rfl, fun c hc => by cases hc⟩
      | false =>
        simp only at h
        obtain ⟨h0, h256, he⟩ := hok.2 rfl
        obtain ⟨m, b, e1, e2, e3, e4, e5⟩ := ih a' (acc ++ [c]) l z ha' h
        refine ⟨c :: m, b, by rw [e1]; simp, e2, e3, ?_, ?_⟩
        · rw [he, hd, e4, flat_cons, List.append_assoc]
        · intro x hx
          rcases List.mem_cons.1 hx with rfl | hx
          · exact ⟨h0, h256⟩
          · exact e5 x hx
theorem unq_err (s : ByteArray) : ∀ (n a : Nat) (acc : List Int) (k : Int), a ≤ s.size → s.size - a + 1 ≤ n → unq n s (a : Int) acc = .error k → k = 9 ∨ k = 3 := by
  intro n
  induction n with
  | zero => intro a acc k ha hn h; omega
  | succ n ih =>
    intro a acc k ha hn h
    have hat := pOne_eq s a ha
    simp only [unq] at h
    cases hp : pOne ((bl s).drop a) with
    | error e => rw [hp] at hat; simp only [At] at hat; rw [hat] at h; injection h with h; subst h; exact one_kind _ _ hp
    | ok x =>
      obtain ⟨c, b, r⟩ := x
      rw [hp] at hat
      obtain ⟨a', hr, hd, ha'⟩ := hat
      have hok := one_ok _ (drop_byte s a) c b r hp
      rw [hr] at h
      cases b with
      | true => cases h
      | false =>
        simp only at h
        obtain ⟨h0, h256, he⟩ := hok.2 rfl
        have hel := esc_len c h0 h256
        have hlen := congrArg List.length he
        rw [List.length_append, hd, List.length_drop, List.length_drop, bl_len] at hlen
        exact ih a' _ k ha' (by omega) h
/-- what is read, and where it ends -/
theorem unquote_ok (s : ByteArray) (h : 0 < s.size ∧ bt s 0 = 34) : (∃ (m : List Int) (b : Nat), unq (s.size + 1) s 1 [] = .ok (m, (b : Int)) ∧ b ≤ s.size ∧ bl s = quo m ++ (bl s).drop b ∧ (quo m).length = b ∧ ∀ c ∈ m, 0 ≤ c ∧ c < 256) ∨
    (∃ k, unq (s.size + 1) s 1 [] = .error k ∧ (k = 9 ∨ k = 3)) := by
  have h1 := unq_ok s (s.size + 1) 1 []
  have h2 := unq_err s (s.size + 1) 1 []
  cases hu : unq (s.size + 1) s 1 [] with
  | error k => right; exact ⟨k, rfl, h2 k (by omega) (by omega) hu⟩
  | ok x =>
    left
    obtain ⟨l, z⟩ := x
    obtain ⟨m, b, e1, e2, e3, e4, e5⟩ := h1 l z (by omega) hu
    rw [List.nil_append] at e1
    subst e2
    rw [e1] at hu ⊢
    have hd := bl_drop s 0 h.1
    rw [List.drop_zero, show bt s ((0 : Nat) : Int) = 34 from h.2, e4] at hd
    have hq : bl s = quo m ++ (bl s).drop b := by
      conv => lhs; rw [hd]
      unfold quo; simp
    refine ⟨m, b, rfl, e3, hq, ?_, e5⟩
    have := congrArg List.length hq
    rw [List.length_append, List.length_drop, bl_len] at this
    omega
/-- what is written is read, whatever is behind it -/
theorem unq_quo (s : ByteArray) : ∀ (m : List Int) (n a : Nat) (acc r : List Int), (∀ c ∈ m, 0 ≤ c ∧ c < 256) → a ≤ s.size → (bl s).drop a = flat m ++ 34 :: r → m.length + 1 ≤ n →
    unq n s (a : Int) acc = .ok (acc ++ m, (a : Int) + (flat m).length + 1) := by
  intro m
  induction m with
  | nil =>
    intro n a acc r hb ha hd hn
    obtain ⟨n, rfl⟩ : ∃ q, n = q + 1 := ⟨n - 1, by omega⟩
    have hat := pOne_eq s a ha
    rw [hd] at hat
    obtain ⟨a', hr, hd', ha'⟩ := hat
    simp only [unq]
    rw [hr]
    have hl := congrArg List.length hd
    simp only [flat, List.flatMap_nil, List.nil_append, List.length_cons, List.length_drop, bl_len] at hl
    have hl2 := congrArg List.length hd'
    rw [List.length_drop, bl_len] at hl2
    simp only [flat, List.flatMap_nil, List.append_nil, List.length_nil]
    congr 2; omega
  | cons c m ih =>
    intro n a acc r hb ha hd hn
    obtain ⟨n, rfl⟩ : ∃ q, n = q + 1 := ⟨n - 1, by omega⟩
    have hat := pOne_eq s a ha
    have hc := hb c (by simp)
    rw [hd, flat_cons, List.append_assoc, one_esc c hc.1 hc.2] at hat
    obtain ⟨a', hr, hd', ha'⟩ := hat
    simp only [unq]
    rw [hr]
    simp only
    have hl := congrArg List.length hd
    rw [flat_cons] at hl
    simp only [List.length_append, List.length_cons, List.length_drop, bl_len] at hl
    have hl2 := congrArg List.length hd'
    simp only [List.length_append, List.length_cons, List.length_drop, bl_len] at hl2
    rw [List.length_cons] at hn
    rw [ih n a' (acc ++ [c]) r (fun x hx => hb x (by simp [hx])) ha' hd'.symm (by omega), flat_cons, List.length_append]
    congr 2
    · simp
    · omega
theorem unquote_quo (m : List Int) (rest : ByteArray) (hm : ∀ c ∈ m, 0 ≤ c ∧ c < 256) (hs : (strOfNums (quo m) ++ rest).size ≤ 100000) :
    escape_Unquote.f (strOfNums (quo m) ++ rest) = some (strOfNums m, ((quo m).length : Int), 0) := by
  have hqb : ∀ c ∈ quo m, 0 ≤ c ∧ c < 256 := fun c hc => by have := quo_byte m hm c hc; omega
  have hbl : bl (strOfNums (quo m) ++ rest) = quo m ++ bl rest := by rw [bl_append, bl_str _ hqb]
  have hsz : (strOfNums (quo m) ++ rest).size = (quo m).length + rest.size := by rw [ByteArray.size_append, strOfNums_size]
  generalize strOfNums (quo m) ++ rest = s at *
  have hql : (quo m).length = (flat m).length + 2 := by unfold quo; simp
  have h0 : 0 < s.size := by omega
  have hd := bl_drop s 0 h0
  rw [List.drop_zero, hbl] at hd
  unfold quo at hd
  rw [List.cons_append] at hd
  injection hd with h34 hd
  rw [unquote_f s hs, if_pos ⟨h0, h34.symm⟩]
  have hfl : m.length ≤ (flat m).length := by
    have key : ∀ l : List Int, (∀ c ∈ l, 0 ≤ c ∧ c < 256) → l.length ≤ (flat l).length := by
      intro l
      induction l with
      | nil => intro _; simp
      | cons c r ih =>
        intro h
        have h1 := esc_len c (h c (by simp)).1 (h c (by simp)).2
        have h2 := ih (fun x hx => h x (by simp [hx]))
        rw [flat_cons, List.length_append, List.length_cons]; omega
    exact key m hm
  have := unq_quo s m (s.size + 1) 1 [] (bl rest) hm (by omega) (by rw [hbl]; unfold quo; simp) (by omega)
  rw [show ((1 : Nat) : Int) = 1 from rfl] at this
  rw [this, List.nil_append, hql]
  simp only [told]
  congr 3; omega

end Go.Proofs.Ytmohadimhapacaa.Plain
