/- Unquote, the program's and the reference's, and the chapter's examples. -/
import Derived.Test.YtmohadimhapacaaPlainB
namespace Go.Proofs.Ytmohadimhapacaa.Plain
open Go.RowKit Go.Proofs.Ytmohadimhapacaa.S Go.Proofs.YtmohadimhapacaaW.PrintWords Go.Proofs.YtmohadimhapacaaW.PrintLast
set_option linter.unusedVariables false
set_option linter.unusedSimpArgs false

/-- an answer of unq as Unquote gives it -/
def told : Except Int (List Int × Int) → ByteArray × Int × Int
  | .ok (l, a) => (strOfNums l, a, 0)
  | .error k => (⟨#[]⟩, 0, k)
theorem len_at {s : ByteArray} {a b : Nat} (ha : a ≤ s.size) (hb : b ≤ s.size) (h : (bl s).drop a = (bl s).drop b) : a = b := by
  have := congrArg List.length h
  rw [List.length_drop, List.length_drop, bl_len] at this
  omega
theorem drop_byte (s : ByteArray) (a : Nat) : ∀ c ∈ (bl s).drop a, 0 ≤ c ∧ c < 256 := fun c hc => bl_byte s c (List.mem_of_mem_drop hc)
theorem runq (s : ByteArray) (hs : s.size ≤ 100000) : ∀ (n m a : Nat) (acc : List Int) (K : Nat), a + m = s.size → m + 1 ≤ n → 2 * n + 260 ≤ K → acc.length ≤ a →
    noonmarkref02_Unquote.l0 K s acc (a : Int) = some (told (unq n s (a : Int) acc)) := by
  intro n
  induction n with
  | zero => intro m a acc K h1 h2; omega
  | succ n ih =>
    intro m a acc K hm hn hK ha
    obtain ⟨K, rfl⟩ : ∃ q, K = q + 1 + 1 := ⟨K - 2, by omega⟩
    have hat := pOne_eq s a (by omega)
    unfold noonmarkref02_Unquote.l0 unq
    by_cases hlt : a < s.size
    · rw [if_pos (by omega), if_pos (by omega)]
      by_cases h34 : bt s a = 34
      · rw [bl_drop s a hlt] at hat
        simp only [pOne, h34, if_true] at hat
        obtain ⟨b, hr, hd, hb⟩ := hat
        obtain rfl := len_at (a := a + 1) (b := b) (by omega) hb hd
        rw [hr]
        unfold noonmarkref02_Unquote.j2
        rw [show (bt s (a : Int) != 34) = false by simp [h34], if_neg (by decide), if_neg (by omega), w64 (by omega) (by omega)]
        rfl
      · unfold noonmarkref02_Unquote.j2
        rw [show (bt s (a : Int) != 34) = true by simp [h34], if_pos rfl, if_pos (by omega), if_pos (by omega), Int.toNat_natCast]
        have h1 := rone_f (s.extract a s.size) K (by omega)
        rw [bl_from] at h1
        cases hp : pOne ((bl s).drop a) with
        | error k =>
          rw [hp] at hat h1
          simp only [At] at hat
          simp only at h1
          rw [hat, h1, Option.bind_some]
          rcases one_kind _ k hp with rfl | rfl
          · rw [if_pos rfl, if_neg (by simp), if_pos (by simp)]; rfl
          · rw [if_pos (by decide)]; rfl
        | ok x =>
          obtain ⟨c, b, r⟩ := x
          rw [hp] at hat h1
          obtain ⟨a', hr, hd, ha'⟩ := hat
          have hok := one_ok _ (drop_byte s a) c b r hp
          cases b with
          | true =>
            have := hok.1 rfl
            rw [bl_drop s a hlt] at this
            injection this with this _
            exact absurd this h34
          | false =>
            obtain ⟨h0, h256, he⟩ := hok.2 rfl
            have hel := esc_len c h0 h256
            simp only at h1
            have hlen := congrArg List.length he
            rw [List.length_append, hd, List.length_drop, List.length_drop, bl_len] at hlen
            rw [hr, h1, Option.bind_some, if_neg (by simp only; omega), if_neg (by simp only; omega), if_pos (by omega), w64 (by simp only; omega) (by simp only; omega)]
            simp only
            rw [show (a : Int) + ((esc c).length : Int) = (a' : Int) by omega]
            exact ih (s.size - a') a' (acc ++ [c]) K (by omega) (by omega) (by omega) (by rw [List.length_append, List.length_singleton]; omega)
    · rw [if_neg (by omega)]
      rw [bl_end s a (by omega)] at hat
      simp only [pOne, At] at hat
      rw [hat]
      unfold noonmarkref02_Unquote.j2
      rw [if_neg (by decide), if_pos (by omega)]
      rfl
theorem unquote_f (s : ByteArray) (hs : s.size ≤ 100000) : escape_Unquote.f s = some (if 0 < s.size ∧ bt s 0 = 34 then told (unq (s.size + 1) s 1 []) else (⟨#[]⟩, 0, 3)) := by
  unfold escape_Unquote.f
  rw [if_neg (by omega)]
  by_cases h : 0 < s.size ∧ bt s 0 = 34
  · rw [if_pos h, if_pos h]
    cases unq (s.size + 1) s 1 [] with
    | error k => rfl
    | ok x => rfl
  · rw [if_neg h, if_neg h]
theorem runquote_f (s : ByteArray) (hs : s.size ≤ 100000) (K : Nat) (hK : 2 * s.size + 264 ≤ K) : noonmarkref02_Unquote.f K s = escape_Unquote.f s := by
  rw [unquote_f s hs]
  unfold noonmarkref02_Unquote.f
  obtain ⟨K, rfl⟩ : ∃ q, K = q + 1 := ⟨K - 1, by omega⟩
  by_cases h : s.size = 0
  · rw [if_pos (by omega), if_neg (by omega)]
    rfl
  · rw [if_neg (by omega), if_pos (by omega)]
    simp only [noonmarkref02_Unquote.j0]
    by_cases h34 : bt s 0 = 34
    · rw [if_neg (show ¬ (bt s 0 != 34) = true by simp [h34]), if_pos (show 0 < s.size ∧ bt s 0 = 34 from ⟨by omega, h34⟩)]
      exact runq s hs (s.size + 1) (s.size - 1) 1 [] K (by omega) (by omega) (by omega) (by simp)
    · rw [if_pos (show (bt s 0 != 34) = true by simp [h34]), if_neg (show ¬ (0 < s.size ∧ bt s 0 = 34) from fun h' => h34 h'.2)]
theorem alive_5 : noonmarklaw02_alive.f 40 = some true := by decide +kernel
theorem alive_f (K : Nat) (hK : 40 ≤ K) : noonmarklaw02_alive.f K = some true := at_rounds noonmarklaw02_alive.mono hK alive_5
end Go.Proofs.Ytmohadimhapacaa.Plain
