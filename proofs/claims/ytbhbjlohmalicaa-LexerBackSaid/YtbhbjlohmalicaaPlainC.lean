/- The reference's fields of a line are those of the scanner. -/
import Derived.Test.YtbhbjlohmalicaaPlainB
namespace Go.Proofs.Ytbhbjlohmalicaa.Plain
open Go.RowKit Go.Proofs.Ytbhbjlohmalicaa.S Go.Proofs.YtbhbjlohmalicaaW.PrintWords Go.Proofs.YtbhbjlohmalicaaW.PrintLast
set_option linter.unusedVariables false
set_option linter.unusedSimpArgs false

theorem ba_ext {a b : ByteArray} (h : a.data.toList = b.data.toList) : a = b := by
  cases a; cases b; congr; exact Array.toList_inj.mp h
theorem str_append (x y : List Int) : strOfNums (x ++ y) = strOfNums x ++ strOfNums y := by
  apply ba_ext; simp [strOfNums]
theorem str_nil : strOfNums [] = (⟨#[]⟩ : ByteArray) := rfl
theorem str_bl (b : ByteArray) : strOfNums (bl b) = b := by
  apply ba_ext
  simp only [strOfNums, bl, List.map_map]
  conv => rhs; rw [← List.map_id b.data.toList]
  apply List.map_congr_left
  intro x _; simp
theorem step_plain {s : St} (h : s.q < 0) (i c : Int) : s.step i c = s.plain i c := by unfold St.step; rw [if_neg (by omega)]
theorem plain_w (s : St) (i : Int) {c : Int} (h : whB c = true) : s.plain i c = s.close := by unfold St.plain; rw [if_pos h]
theorem plain_h (s : St) (i : Int) {c : Int} (h : ¬ whB c = true) (h2 : c = 35) : s.plain i c = ⟨s.close.out, [], -1, s.q, true⟩ := by unfold St.plain; rw [if_neg h, if_pos h2]
theorem plain_o (s : St) (i : Int) {c : Int} (h : ¬ whB c = true) (h2 : c ≠ 35) : s.plain i c = if c = 34 then ⟨s.out, s.text, (s.open_ i).a, i, s.n⟩ else ⟨s.out, s.text ++ [c], (s.open_ i).a, s.q, s.n⟩ := by unfold St.plain; rw [if_neg h, if_neg h2]
theorem str_seg (b : ByteArray) (i n : Nat) (h : i + n ≤ b.size) : strOfNums (((bl b).drop i).take n) = b.extract i (i + n) := by
  apply ba_ext
  have e : strOfNums (((bl b).drop i).take n) = ⟨(((b.data.toList).drop i).take n).toArray⟩ := by
    simp only [strOfNums, bl, List.map_take, List.map_drop, List.map_map]
    have : List.map ((fun n : Int => UInt8.ofNat n.toNat) ∘ fun c : UInt8 => (c.toNat : Int)) b.data.toList = b.data.toList := by
      conv => rhs; rw [← List.map_id b.data.toList]
      apply List.map_congr_left
      intro x _; simp
    rw [this]
  rw [e]
  simp [List.take_drop]
theorem seg_snoc (l : List Int) (i n : Nat) (h : i + n < l.length) : (l.drop i).take (n + 1) = (l.drop i).take n ++ [l[i + n]] := by
  rw [List.take_succ_eq_append_getElem (by rw [List.length_drop]; omega)]; simp

/-- what the reference's field, begun with text t at i, answers: r, told by what the scanner does -/
def FieldTells (b : ByteArray) (i : Nat) (t : List Int) (r : ByteArray × Int × Int) : Prop :=
  (∃ (t' : List Int) (e : Nat), r = (strOfNums t', (e : Int), 0) ∧ i ≤ e ∧ e ≤ b.size ∧ t'.length ≤ e ∧ (e < b.size → whB (bt b e) = true ∨ bt b e = 35) ∧
    ∀ out a, 0 ≤ a → run ((bl b).drop i) i ⟨out, t, a, -1, false⟩ = run ((bl b).drop e) e ⟨out, t', a, -1, false⟩) ∨
  (∃ j : Int, r = ((⟨#[]⟩ : ByteArray), -1, j) ∧ 0 ≤ j ∧ ∀ out a, 0 ≤ a → (run ((bl b).drop i) i ⟨out, t, a, -1, false⟩).q = j)

theorem field_quote (b : ByteArray) (hb : b.size ≤ 200) (at_ : Nat) (hat : at_ < b.size) (t : List Int) (ht : t.length ≤ at_) (K : Nat)
    (ih : ∀ (i : Nat) (t : List Int), at_ < i → i ≤ b.size → t.length ≤ i → ∃ r, noonmarkref07_field.l0 K b i (strOfNums t) = some r ∧ FieldTells b i t r)
    (hm : ∀ k, K ≤ k → ∀ i t r, noonmarkref07_field.l0 K b i t = some r → noonmarkref07_field.l0 k b i t = some r) (j : Nat) :
    ∀ (k e : Nat), at_ + 1 ≤ e → e + j = b.size → K + j < k →
      ∃ r, noonmarkref07_field.l1 k b at_ (strOfNums t) e = some r ∧
        ((∃ (t' : List Int) (e' : Nat), r = (strOfNums t', (e' : Int), 0) ∧ at_ ≤ e' ∧ e' ≤ b.size ∧ t'.length ≤ e' ∧ (e' < b.size → whB (bt b e') = true ∨ bt b e' = 35) ∧
          ∀ out a, 0 ≤ a → run ((bl b).drop e) e ⟨out, t ++ ((bl b).drop (at_ + 1)).take (e - (at_ + 1)), a, at_, false⟩ = run ((bl b).drop e') e' ⟨out, t', a, -1, false⟩) ∨
        (∃ j : Int, r = ((⟨#[]⟩ : ByteArray), -1, j) ∧ 0 ≤ j ∧ ∀ out a, 0 ≤ a → (run ((bl b).drop e) e ⟨out, t ++ ((bl b).drop (at_ + 1)).take (e - (at_ + 1)), a, at_, false⟩).q = j)) := by
  induction j with
  | zero =>
    intro k e h1 h2 hk
    obtain ⟨k, rfl⟩ : ∃ m, k = m + 1 := ⟨k - 1, by omega⟩
    simp only [noonmarkref07_field.l1]
    rw [if_neg (by omega), if_pos (by omega)]
    refine ⟨_, rfl, Or.inr ⟨at_, rfl, by omega, fun out a ha => ?_⟩⟩
    rw [bl_end b e (by omega)]; rfl
  | succ j ihj =>
    intro k e h1 h2 hk
    obtain ⟨k, rfl⟩ : ∃ m, k = m + 1 := ⟨k - 1, by omega⟩
    simp only [noonmarkref07_field.l1]
    rw [if_pos (by omega), if_pos (by omega)]
    have e1 : wrap64 ((at_ : Int) + 1) = ((at_ + 1 : Nat) : Int) := by rw [w64 (by omega) (by omega)]; omega
    have e2 : wrap64 ((e : Int) + 1) = ((e + 1 : Nat) : Int) := by rw [w64 (by omega) (by omega)]; omega
    have hstep : ∀ (out : List S34) (a : Int), run ((bl b).drop e) e ⟨out, t ++ ((bl b).drop (at_ + 1)).take (e - (at_ + 1)), a, at_, false⟩ =
        run ((bl b).drop (e + 1)) (e + 1 : Nat) ((⟨out, t ++ ((bl b).drop (at_ + 1)).take (e - (at_ + 1)), a, at_, false⟩ : St).quoted (bt b e)) := by
      intro out a
      rw [bl_drop b e (by omega)]
      simp only [run, St.step]
      rw [if_neg (by simp), if_pos (by omega)]; rfl
    by_cases hq : bt b e = 34
    · rw [if_pos hq, if_neg (by omega), e1, e2, if_pos (by omega), if_pos (by omega), if_pos (by omega)]
      have hseg : t.length + (e - (at_ + 1)) ≤ e := by omega
      have hx := str_seg b (at_ + 1) (e - (at_ + 1)) (by omega)
      have hx2 : at_ + 1 + (e - (at_ + 1)) = e := by omega
      rw [hx2] at hx
      rw [Int.toNat_natCast, Int.toNat_natCast, ← hx, ← str_append]
      have hsz : (strOfNums t).size + (strOfNums (((bl b).drop (at_ + 1)).take (e - (at_ + 1)))).size ≤ 9223372036854775807 := by
        rw [strOfNums_size, strOfNums_size, List.length_take]; omega
      rw [if_pos hsz]
      obtain ⟨r, hr, htell⟩ := ih (e + 1) (t ++ ((bl b).drop (at_ + 1)).take (e - (at_ + 1))) (by omega) (by omega) (by rw [List.length_append, List.length_take]; omega)
      refine ⟨r, hm k (by omega) _ _ _ hr, ?_⟩
      have hst : ∀ (out : List S34) (a : Int), (⟨out, t ++ ((bl b).drop (at_ + 1)).take (e - (at_ + 1)), a, at_, false⟩ : St).quoted (bt b e) = ⟨out, t ++ ((bl b).drop (at_ + 1)).take (e - (at_ + 1)), a, -1, false⟩ := by
        intro out a; unfold St.quoted; rw [if_pos hq]
      rcases htell with ⟨t', e', h3, h4, h5, h6, h7, h8⟩ | ⟨j', h3, h4, h5⟩
      · exact Or.inl ⟨t', e', h3, by omega, h5, h6, h7, fun out a ha => by rw [hstep, hst]; exact h8 out a ha⟩
      · exact Or.inr ⟨j', h3, h4, fun out a ha => by rw [hstep, hst]; exact h5 out a ha⟩
    · rw [if_neg hq, e2]
      obtain ⟨r, hr, htell⟩ := ihj k (e + 1) (by omega) (by omega) (by omega)
      refine ⟨r, hr, ?_⟩
      have hsn : t ++ ((bl b).drop (at_ + 1)).take (e + 1 - (at_ + 1)) = t ++ ((bl b).drop (at_ + 1)).take (e - (at_ + 1)) ++ [bt b e] := by
        have h9 : e + 1 - (at_ + 1) = (e - (at_ + 1)) + 1 := by omega
        rw [h9, seg_snoc _ _ _ (by rw [bl_len]; omega), List.append_assoc]
        have h10 : at_ + 1 + (e - (at_ + 1)) = e := by omega
        simp only [h10, bl_get b e (by omega)]
      have hst : ∀ (out : List S34) (a : Int), (⟨out, t ++ ((bl b).drop (at_ + 1)).take (e - (at_ + 1)), a, at_, false⟩ : St).quoted (bt b e) = ⟨out, t ++ ((bl b).drop (at_ + 1)).take (e + 1 - (at_ + 1)), a, at_, false⟩ := by
        intro out a; unfold St.quoted; rw [if_neg hq, hsn]
      rcases htell with ⟨t', e', h3, h4, h5, h6, h7, h8⟩ | ⟨j', h3, h4, h5⟩
      · exact Or.inl ⟨t', e', h3, h4, h5, h6, h7, fun out a ha => by rw [hstep, hst]; exact h8 out a ha⟩
      · exact Or.inr ⟨j', h3, h4, fun out a ha => by rw [hstep, hst]; exact h5 out a ha⟩

theorem field_more {k k' : Nat} (h : k ≤ k') (b : ByteArray) (i : Int) (t : ByteArray) (r : ByteArray × Int × Int) (hr : noonmarkref07_field.l0 k b i t = some r) : noonmarkref07_field.l0 k' b i t = some r :=
  at_rounds (g := fun k => noonmarkref07_field.l0 k b i t) (fun k => (noonmarkref07_field.mono_l k).1 _ _ _) h hr
theorem field_l0 (b : ByteArray) (hb : b.size ≤ 200) (m : Nat) : ∀ (i : Nat) (t : List Int), i ≤ b.size → b.size - i = m → t.length ≤ i →
    ∃ r, noonmarkref07_field.l0 (300 * m + 300) b i (strOfNums t) = some r ∧ FieldTells b i t r := by
  induction m using Nat.strongRecOn with
  | _ m ih =>
    intro i t hi hm ht
    have stop : ∀ (v : Bool), (i < b.size → whB (bt b i) = true ∨ bt b i = 35) → FieldTells b i t (strOfNums t, (i : Int), 0) := fun _ h =>
      Or.inl ⟨t, i, rfl, Nat.le_refl _, hi, ht, h, fun _ _ _ => rfl⟩
    obtain ⟨K, hK⟩ : ∃ K, 300 * m + 300 = K + 1 + 1 := ⟨300 * m + 298, by omega⟩
    rw [hK]
    simp only [noonmarkref07_field.l0]
    by_cases h1 : (i : Int) < (b.size : Int)
    · rw [if_pos h1, if_pos (by omega), rwhite_f, Option.bind_some]
      by_cases h2 : whB (bt b i) = true
      · rw [if_pos h2]
        exact ⟨_, by simp only [noonmarkref07_field.j1]; rfl, stop true (fun _ => Or.inl h2)⟩
      · rw [if_neg h2]
        by_cases h3 : bt b i = 35
        · exact ⟨_, by simp only [noonmarkref07_field.j1]; rw [h3]; rfl, stop true (fun _ => Or.inr h3)⟩
        · simp only [noonmarkref07_field.j1]
          have h3' : (bt b i != 35) = true := bne_iff_ne.mpr h3
          have e1 : wrap64 ((i : Int) + 1) = ((i + 1 : Nat) : Int) := by rw [w64 (by omega) (by omega)]; omega
          rw [if_pos h3', if_pos (by omega), if_pos h1, e1]
          have hrun : ∀ out a, run ((bl b).drop i) i ⟨out, t, a, -1, false⟩ = run ((bl b).drop (i + 1)) (i + 1 : Nat) ((⟨out, t, a, -1, false⟩ : St).step i (bt b i)) := by
            intro out a
            rw [bl_drop b i (by omega)]
            simp only [run]
            rw [if_neg (by simp)]; rfl
          have hop : ∀ (out : List S34) (a : Int), 0 ≤ a → ((⟨out, t, a, -1, false⟩ : St).open_ i).a = a := by
            intro out a ha; unfold St.open_; simp only; rw [if_neg (by omega)]
          by_cases h4 : bt b i = 34
          · rw [if_pos h4]
            have key := field_quote b hb i (by omega) t ht (300 * (m - 1) + 300)
              (fun i' t' h5 h6 h7 => by
                obtain ⟨r, hr, hf⟩ := ih (b.size - i') (by omega) i' t' h6 rfl h7
                exact ⟨r, field_more (by omega) _ _ _ _ hr, hf⟩)
              (fun k hk i' t' r hr => field_more hk _ _ _ _ hr) (b.size - (i + 1)) K (i + 1) (by omega) (by omega) (by omega)
            obtain ⟨r, hr, hf⟩ := key
            refine ⟨r, hr, ?_⟩
            have hst : ∀ (out : List S34) (a : Int), 0 ≤ a → (⟨out, t, a, -1, false⟩ : St).step i (bt b i) = ⟨out, t, a, i, false⟩ := by
              intro out a ha
              unfold St.step St.plain
              rw [if_neg (by simp), if_neg h2, if_neg h3, if_pos h4, hop out a ha]
            have h0 : t ++ ((bl b).drop (i + 1)).take (i + 1 - (i + 1)) = t := by simp
            rw [h0] at hf
            rcases hf with ⟨t', e', h5, h6, h7, h8, h9, h10⟩ | ⟨j', h5, h6, h7⟩
            · exact Or.inl ⟨t', e', h5, h6, h7, h8, h9, fun out a ha => by rw [hrun, hst out a ha]; exact h10 out a ha⟩
            · exact Or.inr ⟨j', h5, h6, fun out a ha => by rw [hrun, hst out a ha]; exact h7 out a ha⟩
          · rw [if_neg h4, if_pos (by omega), if_pos (by omega)]
            have hx := str_seg b i 1 (by omega)
            have hx2 : ((bl b).drop i).take 1 = [bt b i] := by rw [bl_drop b i (by omega)]; rfl
            rw [hx2] at hx
            rw [Int.toNat_natCast, Int.toNat_natCast, ← hx, ← str_append]
            rw [if_pos (by rw [strOfNums_size, strOfNums_size]; simp; omega)]
            obtain ⟨r, hr, hf⟩ := ih (b.size - (i + 1)) (by omega) (i + 1) (t ++ [bt b i]) (by omega) rfl (by simp; omega)
            refine ⟨r, field_more (by omega) _ _ _ _ hr, ?_⟩
            have hst : ∀ (out : List S34) (a : Int), 0 ≤ a → (⟨out, t, a, -1, false⟩ : St).step i (bt b i) = ⟨out, t ++ [bt b i], a, -1, false⟩ := by
              intro out a ha
              unfold St.step St.plain
              rw [if_neg (by simp), if_neg h2, if_neg h3, if_neg h4, hop out a ha]
            rcases hf with ⟨t', e', h5, h6, h7, h8, h9, h10⟩ | ⟨j', h5, h6, h7⟩
            · exact Or.inl ⟨t', e', h5, by omega, h7, h8, h9, fun out a ha => by rw [hrun, hst out a ha]; exact h10 out a ha⟩
            · exact Or.inr ⟨j', h5, h6, fun out a ha => by rw [hrun, hst out a ha]; exact h7 out a ha⟩
    · rw [if_neg h1]
      exact ⟨_, by simp only [noonmarkref07_field.j1]; rfl, stop true (fun h => by omega)⟩

/-- an empty state, and where it stands -/
def idle (out : List S34) : St := ⟨out, [], -1, -1, false⟩
theorem idle_white (b : ByteArray) (i : Nat) (hi : i < b.size) (out : List S34) (h : whB (bt b i) = true) : run ((bl b).drop i) i (idle out) = run ((bl b).drop (i + 1)) (i + 1 : Nat) (idle out) := by
  rw [bl_drop b i hi]
  simp only [run]
  rw [if_neg (by simp [idle])]
  have : (idle out).step i (bt b i) = idle out := by unfold St.step St.plain; rw [if_neg (by simp [idle]), if_pos h]; simp [idle, St.close]
  rw [this]; rfl
theorem idle_open (b : ByteArray) (i : Nat) (hi : i < b.size) (out : List S34) (h1 : ¬ whB (bt b i) = true) (h2 : bt b i ≠ 35) : run ((bl b).drop i) i (idle out) = run ((bl b).drop i) i ⟨out, [], i, -1, false⟩ := by
  rw [bl_drop b i hi]
  simp only [run]
  rw [if_neg (by simp [idle]), if_neg (by simp)]
  congr 1
  rw [step_plain (s := idle out) (by simp [idle]), step_plain (s := ⟨out, [], i, -1, false⟩) (by simp), plain_o _ _ h1 h2, plain_o _ _ h1 h2]
  have e1 : ((idle out).open_ i).a = i := by unfold St.open_ idle; simp
  have e2 : ((⟨out, [], i, -1, false⟩ : St).open_ i).a = i := by unfold St.open_; simp
  rw [e1, e2]; rfl
/-- at a field's end the scanner is as one that is idle, with the field -/
theorem field_ends (b : ByteArray) (e : Nat) (out : List S34) (t : List Int) (a : Int) (ha : 0 ≤ a) (h : e < b.size → whB (bt b e) = true ∨ bt b e = 35) :
    (run ((bl b).drop e) e ⟨out, t, a, -1, false⟩).q = (run ((bl b).drop e) e (idle (out ++ [⟨strOfNums t, a⟩]))).q ∧
    (run ((bl b).drop e) e ⟨out, t, a, -1, false⟩).close.out = (run ((bl b).drop e) e (idle (out ++ [⟨strOfNums t, a⟩]))).close.out := by
  have hc : (⟨out, t, a, -1, false⟩ : St).close = idle (out ++ [⟨strOfNums t, a⟩]) := by unfold St.close idle; simp [ha]
  have hc2 : (idle (out ++ [⟨strOfNums t, a⟩])).close = idle (out ++ [⟨strOfNums t, a⟩]) := by unfold St.close idle; simp
  by_cases he : e < b.size
  · rw [bl_drop b e he]
    simp only [run]
    rw [if_neg (by simp), if_neg (by simp [idle])]
    have hs : (⟨out, t, a, -1, false⟩ : St).step e (bt b e) = (idle (out ++ [⟨strOfNums t, a⟩])).step e (bt b e) := by
      rw [step_plain (s := ⟨out, t, a, -1, false⟩) (by simp), step_plain (s := idle (out ++ [(⟨strOfNums t, a⟩ : S34)])) (by simp [idle])]
      by_cases h2 : whB (bt b e) = true
      · rw [plain_w _ _ h2, plain_w _ _ h2, hc, hc2]
      · rcases h he with h1 | h1
        · exact absurd h1 h2
        · rw [plain_h _ _ h2 h1, plain_h _ _ h2 h1, hc, hc2]; rfl
    rw [hs]; exact ⟨rfl, rfl⟩
  · rw [bl_end b e (by omega)]
    simp only [run]
    rw [hc, hc2]; exact ⟨rfl, rfl⟩
def tells (s : St) : List S49 × Int × Int := if 0 ≤ s.q then ([], s.q, 9) else (s.close.out.map cv, 0, 0)
theorem fields_more {k k' : Nat} (h : k ≤ k') (b : ByteArray) (o : List S49) (i : Int) (r : List S49 × Int × Int) (hr : noonmarkref07_Fields.l0 k b o i = some r) : noonmarkref07_Fields.l0 k' b o i = some r :=
  at_rounds (g := fun k => noonmarkref07_Fields.l0 k b o i) (fun k => (noonmarkref07_Fields.mono_l k).1 _ _ _) h hr
theorem rfields_l0 (b : ByteArray) (hb : b.size ≤ 200) (m : Nat) : ∀ (i : Nat) (out : List S34), i ≤ b.size → b.size - i = m → out.length ≤ i →
    noonmarkref07_Fields.l0 (70000 + 2 * m) b (out.map cv) i = some (tells (run ((bl b).drop i) i (idle out))) := by
  induction m using Nat.strongRecOn with
  | _ m ih =>
    intro i out hi hm ho
    obtain ⟨K, hK⟩ : ∃ K, 70000 + 2 * m = K + 1 + 1 := ⟨69998 + 2 * m, by omega⟩
    rw [hK]
    simp only [noonmarkref07_Fields.l0]
    by_cases h1 : (i : Int) < (b.size : Int)
    · rw [if_pos h1, if_pos (by omega)]
      by_cases h3 : bt b i = 35
      · have h3' : (bt b i != 35) = false := by simp [h3]
        simp only [noonmarkref07_Fields.j1, h3', Bool.false_eq_true, if_false]
        rw [bl_drop b i (by omega)]
        simp only [run]
        rw [if_neg (by simp [idle])]
        have : (idle out).step i (bt b i) = ⟨out, [], -1, -1, true⟩ := by
          unfold St.step St.plain; rw [if_neg (by simp [idle]), if_neg (by rw [h3]; decide), if_pos h3]; simp [idle, St.close]
        rw [this, run_stop _ _ _ rfl]
        simp [tells, St.close]
      · have h3' : (bt b i != 35) = true := bne_iff_ne.mpr h3
        simp only [noonmarkref07_Fields.j1, h3', if_true]
        rw [if_pos (by omega), if_pos h1, rwhite_f, Option.bind_some]
        have e1 : wrap64 ((i : Int) + 1) = ((i + 1 : Nat) : Int) := by rw [w64 (by omega) (by omega)]; omega
        by_cases h2 : whB (bt b i) = true
        · rw [if_pos h2, e1, idle_white b i (by omega) out h2]
          exact fields_more (by omega) _ _ _ _ (ih (b.size - (i + 1)) (by omega) (i + 1) out (by omega) rfl (by omega))
        · rw [if_neg h2]
          obtain ⟨r, hr, hf⟩ := field_l0 b hb (b.size - i) i [] (by omega) rfl (by simp)
          have hr2 : noonmarkref07_field.f K b i = some r := by
            unfold noonmarkref07_field.f
            rw [← str_nil]
            exact field_more (by omega) _ _ _ _ hr
          rw [hr2, Option.bind_some, idle_open b i (by omega) out h2 h3]
          rcases hf with ⟨t', e', h5, h6, h7, h8, h9, h10⟩ | ⟨j', h5, h6, h7⟩
          · rw [h5, h10 out i (by omega)]
            have hlt : i < e' := by
              rcases Nat.lt_or_ge i e' with h | h
              · exact h
              · obtain rfl : e' = i := by omega
                rcases h9 (by omega) with h | h
                · exact absurd h h2
                · exact absurd h h3
            simp only
            rw [if_neg (by omega), if_pos (by simp; omega)]
            have hends := field_ends b e' out t' i (by omega) h9
            have hcv : out.map cv ++ [(⟨strOfNums t', (i : Int)⟩ : S49)] = (out ++ [(⟨strOfNums t', (i : Int)⟩ : S34)]).map cv := by simp [cv]
            rw [hcv]
            have hih := ih (b.size - e') (by omega) e' (out ++ [⟨strOfNums t', i⟩]) h7 rfl (by simp; omega)
            rw [fields_more (by omega) _ _ _ _ hih]
            unfold tells
            rw [hends.1, hends.2]
          · rw [h5]
            have hq := h7 out i (by omega)
            simp only
            rw [if_pos (by omega)]
            unfold tells
            rw [hq, if_pos h6]
    · rw [if_neg h1]
      simp only [noonmarkref07_Fields.j1, Bool.false_eq_true, if_false]
      rw [bl_end b i (by omega)]
      simp [run, tells, idle, St.close]
theorem rfields_f (b : ByteArray) : noonmarkref07_Fields.f 80000 b = some (if (b.size : Int) > 200 then ([], 0, 17) else tells (fin b)) := by
  unfold noonmarkref07_Fields.f
  by_cases h : (b.size : Int) > 200
  · rw [if_pos h, if_pos h]
  · rw [if_neg h, if_neg h]
    have := rfields_l0 b (by omega) b.size 0 [] (by omega) (by omega) (by simp)
    rw [List.drop_zero] at this
    exact fields_more (by omega) _ _ _ _ this
end Go.Proofs.Ytbhbjlohmalicaa.Plain
