/- The statement that what is read is written so again, of the plain functions. -/
import Derived.Test.YtmohadimhapacaaPlainE
import Derived.Test.YtmohadimhapacaaPlainF
import Derived.Test.YtmohadimhapacaaS11
namespace Go.Proofs.Ytmohadimhapacaa.Pure
open Go.RowKit Go.Proofs.Ytmohadimhapacaa.S Go.Proofs.Ytmohadimhapacaa.Plain Go.Proofs.YtmohadimhapacaaW.PrintWords Go.Proofs.YtmohadimhapacaaW.PrintLast
set_option linter.unusedVariables false

theorem one_l0 (t : ByteArray) (ht : t.size ≤ 100000) (hb : ∀ c ∈ bl t, 32 ≤ c ∧ c ≤ 126) : ∀ (m i K : Nat), i + m = t.size → m + 60 ≤ K → noonmarklaw02_EscapeOne.l0 K t (i : Int) = some true := by
  intro m
  induction m with
  | zero =>
    intro i K hi hK
    obtain ⟨K, rfl⟩ : ∃ q, K = q + 1 := ⟨K - 1, by omega⟩
    simp only [noonmarklaw02_EscapeOne.l0]
    rw [if_neg (by omega), alive_f K (by omega)]; rfl
  | succ m ih =>
    intro i K hi hK
    obtain ⟨K, rfl⟩ : ∃ q, K = q + 1 := ⟨K - 1, by omega⟩
    have hc : 32 ≤ bt t i ∧ bt t i ≤ 126 := by
      have := bl_get t i (by omega)
      rw [← this]
      exact hb _ (List.getElem_mem _)
    simp only [noonmarklaw02_EscapeOne.l0]
    rw [if_pos (by omega), if_pos (by omega), if_neg (by omega), if_neg (by omega), w64 (by omega) (by omega), show ((i : Int) + 1) = ((i + 1 : Nat) : Int) by omega]
    exact ih (i + 1) K (by omega) (by omega)
theorem one_j1 (s : ByteArray) (hs : s.size ≤ 500) (K : Nat) (hK : 4000 ≤ K) : noonmarklaw02_EscapeOne.j1 K s false = some true := by
  obtain ⟨K, rfl⟩ : ∃ q, K = q + 1 := ⟨K - 1, by omega⟩
  simp only [noonmarklaw02_EscapeOne.j1]
  have hq := quo_byte (bl s) (bl_byte s)
  have hqb : ∀ c ∈ quo (bl s), 0 ≤ c ∧ c < 256 := fun c hc => by have := hq c hc; omega
  have hfl := flat_len (bl s) (bl_byte s)
  rw [bl_len] at hfl
  have hsz : (strOfNums (quo (bl s))).size ≤ 2002 := by rw [strOfNums_size]; unfold quo; simp; omega
  rw [if_neg (by decide), quote_f s (by omega) K (by omega), Option.bind_some]
  exact one_l0 _ (by omega) (by rw [bl_str _ hqb]; exact hq) (strOfNums (quo (bl s))).size 0 K (by omega) (by omega)
theorem one_j0 (s : ByteArray) (hs : s.size ≤ 500) (K : Nat) (hK : 4001 ≤ K) : noonmarklaw02_EscapeOne.j0 K s false = some true := by
  obtain ⟨K, rfl⟩ : ∃ q, K = q + 1 := ⟨K - 1, by omega⟩
  simp only [noonmarklaw02_EscapeOne.j0]
  rw [if_neg (by decide), unquote_f s (by omega), Option.bind_some]
  by_cases h : 0 < s.size ∧ bt s 0 = 34
  · rw [if_pos h]
    rcases unquote_ok s h with ⟨m, b, e1, e2, e3, e4, e5⟩ | ⟨k, e1, e2⟩
    · rw [e1, show told (Except.ok (m, (b : Int))) = (strOfNums m, (b : Int), 0) from rfl]
      dsimp only
      have hm : m.length ≤ s.size := by
        have key : ∀ l : List Int, (∀ c ∈ l, 0 ≤ c ∧ c < 256) → l.length ≤ (flat l).length := by
          intro l
          induction l with
          | nil => intro _; simp
          | cons c r ih =>
            intro h
            have h1 := esc_len c (h c (by simp)).1 (h c (by simp)).2
            have h2 := ih (fun x hx => h x (by simp [hx]))
            rw [flat_cons, List.length_append, List.length_cons]; omega
        have := key m e5
        have h4 := e4
        unfold quo at h4
        simp at h4
        omega
      rw [if_pos rfl, if_neg (by omega), if_neg (by omega), quote_f (strOfNums m) (by rw [strOfNums_size]; omega) K (by rw [strOfNums_size]; omega), Option.bind_some, if_pos (by omega), if_pos (by omega), bl_str m e5, Int.toNat_natCast]
      have he : strOfNums (quo m) = s.extract 0 b := by
        apply bl_inj
        rw [bl_upto, bl_str _ (fun c hc => by have := quo_byte m e5 c hc; omega)]
        conv => rhs; rw [e3, ← e4, List.take_left]
      rw [he, show ((s.extract 0 b).toList != (s.extract 0 b).toList) = false by simp]
      exact one_j1 s hs K (by omega)
    · rw [e1, show told (Except.error k) = (⟨#[]⟩, 0, k) from rfl]
      dsimp only
      rw [if_neg (by omega)]
      exact one_j1 s hs K (by omega)
  · rw [if_neg h]
    rw [if_neg (by decide)]
    exact one_j1 s hs K (by omega)
theorem EscapeOne : noonmarklaw02_EscapeOne.Pure := by
  intro s _
  obtain ⟨K, hK⟩ : ∃ K : Nat, K = 5000 := ⟨_, rfl⟩
  refine ⟨K, ?_⟩
  unfold noonmarklaw02_EscapeOne.f
  have ha := alive_f K (by omega)
  by_cases h : (s.size : Int) > 500
  · rw [if_pos h, ha]; rfl
  rw [if_neg h, parse_f s (by omega) K (by omega), Option.bind_some]
  by_cases hk : (pI (bl s)).2 = 0
  · rw [if_pos hk]
    obtain ⟨h0, h1, h2⟩ := decS_pI (bl s) (pI (bl s)).1 (by rw [← hk])
    rw [int_f _ h0 h1, Option.bind_some, h2, str_bl, show (s.toList != s.toList) = false by simp]
    exact one_j0 s (by omega) K (by omega)
  · rw [if_neg hk]
    exact one_j0 s (by omega) K (by omega)

end Go.Proofs.Ytmohadimhapacaa.Pure
