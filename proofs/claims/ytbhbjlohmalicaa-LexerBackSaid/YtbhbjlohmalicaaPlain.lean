/- The scanner of a line, as a plain function over a list of bytes: what it does to a line in two parts, behind white, and that it has the fields that the reference has. -/
import Derived.Test.YtbhbjlohmalicaaS4
import Derived.Test.YtbhbjlohmalicaaS5
import Derived.Test.YtbhbjlohmalicaaS6
import Derived.Test.YtbhbjlohmalicaaS7
import Derived.Test.YtbhbjlohmalicaaS8
namespace Go.Proofs.Ytbhbjlohmalicaa.Plain
open Go.RowKit Go.Proofs.Ytbhbjlohmalicaa.S Go.Proofs.YtbhbjlohmalicaaW.PrintWords Go.Proofs.YtbhbjlohmalicaaW.PrintLast
set_option linter.unusedVariables false
set_option linter.unusedSimpArgs false

theorem w64 {n : Int} (h1 : -9223372036854775808 ≤ n) (h2 : n ≤ 9223372036854775807) : wrap64 n = n := IntWalk.wrap64_in n ⟨h1, h2⟩
def bl (b : ByteArray) : List Int := b.data.toList.map fun c => (c.toNat : Int)
theorem bl_len (b : ByteArray) : (bl b).length = b.size := by simp [bl]
theorem bl_get (b : ByteArray) (i : Nat) (h : i < b.size) : (bl b)[i]'(by rw [bl_len]; exact h) = bt b i := by
  simp only [bl, bt, Int.toNat_natCast, h, dif_pos, List.getElem_map]
  rfl
theorem bl_drop (b : ByteArray) (i : Nat) (h : i < b.size) : (bl b).drop i = bt b i :: (bl b).drop (i + 1) := by
  rw [← bl_get b i h]; exact List.drop_eq_getElem_cons (by rw [bl_len]; exact h)
theorem bl_end (b : ByteArray) (i : Nat) (h : b.size ≤ i) : (bl b).drop i = [] := List.drop_of_length_le (by rw [bl_len]; exact h)
theorem bl_append (a b : ByteArray) : bl (a ++ b) = bl a ++ bl b := by simp [bl]

def run : List Int → Int → St → St
  | [], _, s => s
  | c :: r, i, s => if s.n = true then s else run r (i + 1) (s.step i c)
theorem run_stop (l : List Int) (i : Int) (s : St) (h : s.n = true) : run l i s = s := by
  cases l with
  | nil => rfl
  | cons c r => simp [run, h]
theorem scan_run (b : ByteArray) : ∀ (k i : Nat) (s : St), i + k = b.size → scan k b i s = run ((bl b).drop i) i s := by
  intro k
  induction k with
  | zero => intro i s h; rw [bl_end b i (by omega)]; rfl
  | succ k ih =>
    intro i s h
    rw [bl_drop b i (by omega)]
    simp only [scan, run]
    by_cases hn : s.n = true
    · rw [if_pos hn, if_pos hn]
    · rw [if_neg hn, if_neg hn]
      exact ih (i + 1) _ (by omega)
theorem run_append (l m : List Int) : ∀ (i : Int) (s : St), run (l ++ m) i s = run m (i + l.length) (run l i s) := by
  induction l with
  | nil => intro i s; simp [run]
  | cons c r ih =>
    intro i s
    simp only [List.cons_append, run, List.length_cons]
    by_cases hn : s.n = true
    · rw [if_pos hn, if_pos hn, run_stop _ _ _ hn]
    · rw [if_neg hn, if_neg hn, ih]
      congr 1
      simp; omega

/-! no note where there is no # -/
theorem step_n (s : St) (i c : Int) (h : c ≠ 35) : (s.step i c).n = s.n := by
  unfold St.step St.quoted St.plain St.close
  repeat' split
  all_goals first | rfl | exact absurd ‹_› h
theorem run_n (l : List Int) (h : ∀ c ∈ l, c ≠ 35) : ∀ (i : Int) (s : St), (run l i s).n = s.n := by
  induction l with
  | nil => intro i s; rfl
  | cons c r ih =>
    intro i s
    simp only [run]
    split
    · rfl
    · rw [ih (fun c hc => h c (List.mem_cons_of_mem _ hc)), step_n _ _ _ (h c List.mem_cons_self)]

/-! fields that are there ahead -/
def pre (p : List S34) (s : St) : St := ⟨p ++ s.out, s.text, s.a, s.q, s.n⟩
theorem pre_close (p : List S34) (s : St) : (pre p s).close = pre p s.close := by
  unfold St.close pre; by_cases h : 0 ≤ s.a <;> simp [h]
theorem pre_step (p : List S34) (s : St) (i c : Int) : (pre p s).step i c = pre p (s.step i c) := by
  unfold St.step
  by_cases hq : 0 ≤ s.q
  · rw [if_pos hq, if_pos (show 0 ≤ (pre p s).q from hq)]
    unfold St.quoted; by_cases hc : c = 34 <;> simp [hc, pre]
  · rw [if_neg hq, if_neg (show ¬ 0 ≤ (pre p s).q from hq)]
    unfold St.plain
    rw [pre_close]
    by_cases h1 : whB c = true
    · simp [h1]
    · by_cases h2 : c = 35
      · simp [h1, h2]; rfl
      · by_cases h3 : c = 34
        · simp [h1, h2, h3]; rfl
        · simp [h1, h2, h3]; rfl
theorem pre_run (p : List S34) (l : List Int) : ∀ (i : Int) (s : St), run l i (pre p s) = pre p (run l i s) := by
  induction l with
  | nil => intro i s; rfl
  | cons c r ih =>
    intro i s
    simp only [run]
    by_cases hn : s.n = true
    · rw [if_pos hn, if_pos (show (pre p s).n = true from hn)]
    · rw [if_neg hn, if_neg (show ¬ (pre p s).n = true from hn), pre_step, ih]

/-! a line that begins further on -/
def up (d x : Int) : Int := if 0 ≤ x then x + d else x
def shF (d : Int) (f : S34) : S34 := ⟨f.f0, f.f1 + d⟩
def sh (d : Int) (s : St) : St := ⟨s.out.map (shF d), s.text, up d s.a, up d s.q, s.n⟩
theorem up_pos {d x : Int} (hd : 0 ≤ d) : 0 ≤ up d x ↔ 0 ≤ x := by unfold up; split <;> omega
theorem sh_close (d : Int) (hd : 0 ≤ d) (s : St) : (sh d s).close = sh d s.close := by
  unfold St.close sh
  simp only [up_pos hd]
  by_cases h : 0 ≤ s.a
  · simp [h, shF, up]
  · simp [h, up]
theorem sh_step (d : Int) (hd : 0 ≤ d) (s : St) (i c : Int) (hi : 0 ≤ i) : (sh d s).step (i + d) c = sh d (s.step i c) := by
  have hup : up d i = i + d := by unfold up; rw [if_pos hi]
  have hm : up d (-1) = -1 := rfl
  have ha : ((sh d s).open_ (i + d)).a = up d ((s.open_ i).a) := by
    unfold St.open_ sh
    simp only
    by_cases h : s.a < 0
    · have : up d s.a < 0 := by unfold up; rw [if_neg (by omega)]; exact h
      rw [if_pos this, if_pos h, hup]
    · have : ¬ up d s.a < 0 := by unfold up; rw [if_pos (by omega)]; omega
      rw [if_neg this, if_neg h]
  unfold St.step
  by_cases hq : 0 ≤ s.q
  · rw [if_pos hq, if_pos (show 0 ≤ (sh d s).q from (up_pos hd).mpr hq)]
    unfold St.quoted; by_cases hc : c = 34 <;> simp [hc, sh, hm]
  · rw [if_neg hq, if_neg (show ¬ 0 ≤ (sh d s).q from fun h => hq ((up_pos hd).mp h))]
    unfold St.plain
    rw [sh_close d hd, ha]
    by_cases h1 : whB c = true
    · simp [h1]
    · by_cases h2 : c = 35
      · rw [if_neg h1, if_neg h1, if_pos h2, if_pos h2]; simp [sh, hm]
      · by_cases h3 : c = 34
        · rw [if_neg h1, if_neg h1, if_neg h2, if_neg h2, if_pos h3, if_pos h3]; simp [sh, hup]
        · rw [if_neg h1, if_neg h1, if_neg h2, if_neg h2, if_neg h3, if_neg h3]; simp [sh]
theorem sh_run (d : Int) (hd : 0 ≤ d) (l : List Int) : ∀ (i : Int) (s : St), 0 ≤ i → run l (i + d) (sh d s) = sh d (run l i s) := by
  induction l with
  | nil => intro i s _; rfl
  | cons c r ih =>
    intro i s hi
    simp only [run]
    by_cases hn : s.n = true
    · rw [if_pos hn, if_pos (show (sh d s).n = true from hn)]
    · rw [if_neg hn, if_neg (show ¬ (sh d s).n = true from hn), sh_step d hd s i c hi]
      rw [← ih (i + 1) _ (by omega)]
      congr 1
      omega

/-! what a line has -/
def fin (b : ByteArray) : St := run (bl b) 0 St.init
theorem fields_eq (b : ByteArray) : lexer_Fields.f b = if (b.size : Int) > 200 then some ([], 0, 17) else if 0 ≤ (fin b).q then some ([], (fin b).q, 9) else some ((fin b).close.out, 0, 0) := by
  unfold lexer_Fields.f
  have := scan_run b b.size 0 St.init (by omega)
  rw [List.drop_zero] at this
  have e : ((0 : Nat) : Int) = 0 := rfl
  rw [e] at this
  rw [this]; rfl
theorem run_len (l : List Int) : ∀ (i : Int) (s : St), (run l i s).out.length ≤ s.out.length + l.length ∧ (run l i s).text.length ≤ s.text.length + l.length := by
  induction l with
  | nil => intro i s; simp [run]
  | cons c r ih =>
    intro i s
    simp only [run]
    have h1 := s.step_len i c
    have h2 := ih (i + 1) (s.step i c)
    split
    · simp
    · simp; omega
theorem fin_len (b : ByteArray) : (fin b).close.out.length ≤ b.size + 1 := by
  have h := (run_len (bl b) 0 St.init).1
  have h2 := (fin b).close_len
  rw [bl_len] at h
  have e : St.init.out.length = 0 := rfl
  unfold fin at *
  omega
end Go.Proofs.Ytbhbjlohmalicaa.Plain
