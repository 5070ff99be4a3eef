/- Join, the program's and the reference's, and that Fields undoes it. -/
import Derived.Test.YtmohadimhapacaaPlainG
import Derived.Test.YtmohadimhapacaaS7
namespace Go.Proofs.Ytmohadimhapacaa.Plain
open Go.RowKit Go.Proofs.Ytmohadimhapacaa.S Go.Proofs.YtmohadimhapacaaW.PrintWords Go.Proofs.YtmohadimhapacaaW.PrintLast
set_option linter.unusedVariables false
set_option linter.unusedSimpArgs false

theorem rd_at (l : List ByteArray) (i : Nat) (h : i < l.length) : rdOf ByteArray.empty l (i : Int) = l[i] := by
  unfold rdOf; rw [Int.toNat_natCast, List.getD_eq_getElem?_getD, List.getElem?_eq_getElem h]; rfl
/-- not too many texts, and none too long -/
def Light (l : List ByteArray) : Prop := l.length ≤ 30 ∧ ∀ x ∈ l, x.size ≤ 200
theorem light_l0 (l : List ByteArray) (hl : l.length ≤ 30) : ∀ (m i K : Nat), i + m = l.length → m + 1 ≤ K → ∃ b, noonmarklaw02_light.l0 K l (i : Int) = some b ∧ (b = true → ∀ x ∈ l.drop i, x.size ≤ 200) := by
  intro m
  induction m with
  | zero =>
    intro i K hi hK
    obtain ⟨K, rfl⟩ : ∃ q, K = q + 1 := ⟨K - 1, by omega⟩
    simp only [noonmarklaw02_light.l0]
    rw [if_neg (by omega)]
    exact ⟨true, rfl, fun _ x hx => by rw [List.drop_of_length_le (by omega)] at hx; cases hx⟩
  | succ m ih =>
    intro i K hi hK
    obtain ⟨K, rfl⟩ : ∃ q, K = q + 1 := ⟨K - 1, by omega⟩
    have hlt : i < l.length := by omega
    simp only [noonmarklaw02_light.l0]
    rw [if_pos (by omega), if_pos (by omega), rd_at l i hlt]
    by_cases h : ((l[i]).size : Int) > 200
    · rw [if_pos h]; exact ⟨false, rfl, fun h => by cases h⟩
    · rw [if_neg h, w64 (by omega) (by omega), show ((i : Int) + 1) = ((i + 1 : Nat) : Int) by omega]
      obtain ⟨b, e, hb⟩ := ih (i + 1) K (by omega) (by omega)
      refine ⟨b, e, fun ht x hx => ?_⟩
      rw [List.drop_eq_getElem_cons hlt] at hx
      rcases List.mem_cons.1 hx with rfl | hx
      · omega
      · exact hb ht x hx
theorem light_f (l : List ByteArray) (K : Nat) (hK : 40 ≤ K) : ∃ b, noonmarklaw02_light.f K l = some b ∧ (b = true → Light l) := by
  unfold noonmarklaw02_light.f
  by_cases h : (l.length : Int) > 30
  · rw [if_pos h]; exact ⟨false, rfl, fun h => by cases h⟩
  · rw [if_neg h]
    obtain ⟨b, e, hb⟩ := light_l0 l (by omega) l.length 0 K (by omega) (by omega)
    refine ⟨b, e, fun ht => ⟨by omega, ?_⟩⟩
    have := hb ht
    rwa [List.drop_zero] at this
theorem texts_l0 (a : List ByteArray) (ha : a.length ≤ 200000) : ∀ (m i K : Nat), i + m = a.length → m + 1 ≤ K → noonmarkref02_Texts.l0 K a a (i : Int) = some true := by
  intro m
  induction m with
  | zero =>
    intro i K hi hK
    obtain ⟨K, rfl⟩ : ∃ q, K = q + 1 := ⟨K - 1, by omega⟩
    simp only [noonmarkref02_Texts.l0]
    rw [if_neg (by omega)]
  | succ m ih =>
    intro i K hi hK
    obtain ⟨K, rfl⟩ : ∃ q, K = q + 1 := ⟨K - 1, by omega⟩
    simp only [noonmarkref02_Texts.l0]
    rw [if_pos (by omega), if_pos (by omega), if_pos (by omega), if_pos trivial, w64 (by omega) (by omega), show ((i : Int) + 1) = ((i + 1 : Nat) : Int) by omega]
    exact ih (i + 1) K (by omega) (by omega)
theorem texts_f (a : List ByteArray) (ha : a.length ≤ 200000) (K : Nat) (hK : a.length + 1 ≤ K) : noonmarkref02_Texts.f K a a = some true := by
  unfold noonmarkref02_Texts.f
  rw [if_pos rfl]
  exact texts_l0 a ha a.length 0 K (by omega) hK

/-! how a text is written among others -/
def pl (x : ByteArray) : Bool := decide (x.size ≠ 0 ∧ bt x 0 ≠ 34 ∧ spn (bl x) = x.size)
def fb (x : ByteArray) : List Int := if pl x = true then bl x else quo (bl x)
def fw (x : ByteArray) : ByteArray := strOfNums (fb x)
theorem fb_byte (x : ByteArray) : ∀ c ∈ fb x, 0 ≤ c ∧ c < 256 := by
  intro c hc
  unfold fb at hc
  split at hc
  · exact bl_byte x c hc
  · have := quo_byte (bl x) (bl_byte x) c hc; omega
theorem bl_fw (x : ByteArray) : bl (fw x) = fb x := bl_str _ (fb_byte x)
theorem fw_pl (x : ByteArray) (h : pl x = true) : fw x = x := by unfold fw fb; rw [if_pos h, str_bl]
theorem fw_quo (x : ByteArray) (h : ¬ pl x = true) : fw x = strOfNums (quo (bl x)) := by unfold fw fb; rw [if_neg h]
theorem fb_len (x : ByteArray) (h : x.size ≤ 200) : (fb x).length ≤ 802 := by
  unfold fb
  split
  · rw [bl_len]; omega
  · have := flat_len (bl x) (bl_byte x)
    rw [bl_len] at this
    unfold quo
    simp only [List.length_cons, List.length_append, List.length_nil]
    omega
theorem plain_l0 (x : ByteArray) (hx : x.size ≤ 100000) : ∀ (m i K : Nat), i + m = x.size → m + 1 ≤ K → noonmarkref02_plain.l0 K x (i : Int) = some (decide (spn ((bl x).drop i) = x.size - i)) := by
  intro m
  induction m with
  | zero =>
    intro i K hi hK
    obtain ⟨K, rfl⟩ : ∃ q, K = q + 1 := ⟨K - 1, by omega⟩
    simp only [noonmarkref02_plain.l0]
    rw [if_neg (by omega), bl_end x i (by omega), decide_eq_true (show spn [] = x.size - i by simp only [spn]; omega)]
  | succ m ih =>
    intro i K hi hK
    obtain ⟨K, rfl⟩ : ∃ q, K = q + 1 := ⟨K - 1, by omega⟩
    simp only [noonmarkref02_plain.l0]
    rw [if_pos (by omega), if_pos (by omega), bl_drop x i (by omega), spn_cons]
    by_cases h1 : bt x i ≤ 32
    · rw [if_pos h1, if_neg (show ¬ (32 < bt x i ∧ bt x i ≤ 126) by omega), decide_eq_false (by omega)]
    rw [if_neg h1]
    by_cases h2 : bt x i > 126
    · rw [if_pos h2, if_neg (show ¬ (32 < bt x i ∧ bt x i ≤ 126) by omega), decide_eq_false (by omega)]
    rw [if_neg h2, if_pos (show 32 < bt x i ∧ bt x i ≤ 126 by omega), w64 (by omega) (by omega), show ((i : Int) + 1) = ((i + 1 : Nat) : Int) by omega, ih (i + 1) K (by omega) (by omega)]
    congr 1
    rw [decide_eq_decide]
    omega
theorem plain_f (x : ByteArray) (hx : x.size ≤ 100000) (K : Nat) (hK : x.size + 2 ≤ K) : noonmarkref02_plain.f K x = some (pl x) := by
  obtain ⟨K, rfl⟩ : ∃ q, K = q + 1 := ⟨K - 1, by omega⟩
  unfold noonmarkref02_plain.f pl
  simp only [noonmarkref02_plain.j0]
  by_cases h : x.size = 0
  · rw [if_pos (by omega), if_pos trivial, decide_eq_false (fun h' => h'.1 h)]
  · rw [if_neg (by omega), if_pos (by omega)]
    by_cases h34 : bt x 0 = 34
    · rw [if_pos (beq_iff_eq.2 h34), decide_eq_false (fun h' => h'.2.1 h34)]
    · rw [if_neg (show ¬ (bt x 0 == 34) = true by rw [beq_iff_eq]; exact h34)]
      have := plain_l0 x hx x.size 0 K (by omega) (by omega)
      rw [List.drop_zero] at this
      rw [show (0 : Int) = ((0 : Nat) : Int) from rfl, this]
      congr 1
      rw [decide_eq_decide]
      exact ⟨fun h1 => ⟨h, h34, by omega⟩, fun h1 => by have := h1.2.2; omega⟩

/-! lists of texts as one -/
def sp (L : List (List Int)) : List Int := L.flatMap fun y => 32 :: y
def jn : List (List Int) → List Int
  | [] => []
  | x :: r => x ++ sp r
theorem sp_cons (y : List Int) (r : List (List Int)) : sp (y :: r) = 32 :: (y ++ sp r) := rfl
theorem sp_len (L : List ByteArray) (h : ∀ x ∈ L, x.size ≤ 200) : (sp (L.map fb)).length ≤ 803 * L.length := by
  induction L with
  | nil => simp [sp]
  | cons x r ih =>
    have h1 := fb_len x (h x (by simp))
    have h2 := ih (fun y hy => h y (by simp [hy]))
    rw [List.map_cons, sp_cons, List.length_cons, List.length_append, List.length_cons]
    omega
theorem jn_len (L : List ByteArray) (h : Light L) : (jn (L.map fb)).length ≤ 24090 := by
  cases L with
  | nil => simp [jn]
  | cons x r =>
    have h1 := fb_len x (h.2 x (by simp))
    have h2 := sp_len r (fun y hy => h.2 y (by simp [hy]))
    have h3 := h.1
    rw [List.length_cons] at h3
    simp only [List.map_cons, jn, List.length_append]
    omega
theorem sp_byte (L : List ByteArray) : ∀ c ∈ sp (L.map fb), 0 ≤ c ∧ c < 256 := by
  induction L with
  | nil => intro c hc; cases hc
  | cons x r ih =>
    intro c hc
    rw [List.map_cons, sp_cons] at hc
    rcases List.mem_cons.1 hc with rfl | hc
    · omega
    · rcases List.mem_append.1 hc with hc | hc
      · exact fb_byte x c hc
      · exact ih c hc
theorem jn_byte (L : List ByteArray) : ∀ c ∈ jn (L.map fb), 0 ≤ c ∧ c < 256 := by
  cases L with
  | nil => intro c hc; cases hc
  | cons x r =>
    intro c hc
    simp only [List.map_cons, jn] at hc
    rcases List.mem_append.1 hc with hc | hc
    · exact fb_byte x c hc
    · exact sp_byte r c hc
theorem lib_jn (L : List ByteArray) : (Lib.join (L.map (·.data.toList)) [32]).map (fun c => (c.toNat : Int)) = jn (L.map bl) := by
  cases L with
  | nil => rfl
  | cons x r =>
    rw [List.map_cons, Lib.join_cons, List.map_append, List.map_cons]
    show bl x ++ _ = bl x ++ sp (r.map bl)
    congr 1
    induction r with
    | nil => rfl
    | cons y r ih =>
      rw [List.map_cons, List.map_cons, sp_cons]
      simp only [Lib.joinTail, List.map_cons, List.flatten_cons, List.map_append] at ih ⊢
      rw [ih]; rfl
theorem join_f (L : List ByteArray) (h : Light L) : strings_Join.f (L.map fw) (⟨#[32]⟩ : ByteArray) = some (strOfNums (jn (L.map fb))) := by
  have e : (L.map fw).map bl = L.map fb := by
    rw [List.map_map]; apply List.map_congr_left; intro x _; exact bl_fw x
  have hl := lib_jn (L.map fw)
  rw [e] at hl
  have hlen := congrArg List.length hl
  rw [List.length_map] at hlen
  have hj := jn_len L h
  have h30 := h.1
  unfold strings_Join.f
  rw [show ((⟨#[32]⟩ : ByteArray).data.toList) = [32] from rfl, if_pos ⟨by omega, by rw [List.length_map]; omega⟩]
  congr 1
  apply bl_inj
  rw [bl_str _ (jn_byte L)]
  exact hl
theorem ejoin_l0 (l : List ByteArray) (h : Light l) : ∀ (m i : Nat) (out : List ByteArray) (K : Nat), i + m = l.length → out.length ≤ i → m + 600 ≤ K →
    escape_Join.l0 K out l (l.length : Int) (i : Int) = strings_Join.f (out ++ (l.drop i).map fw) (⟨#[32]⟩ : ByteArray) := by
  have h30 := h.1
  intro m
  induction m with
  | zero =>
    intro i out K hi ho hK
    obtain ⟨K, rfl⟩ : ∃ q, K = q + 1 := ⟨K - 1, by omega⟩
    simp only [escape_Join.l0]
    rw [if_neg (by omega), List.drop_of_length_le (by omega), List.map_nil, List.append_nil]
    cases strings_Join.f out (⟨#[32]⟩ : ByteArray) <;> rfl
  | succ m ih =>
    intro i out K hi ho hK
    obtain ⟨K, rfl⟩ : ∃ q, K = q + 1 := ⟨K - 1, by omega⟩
    have hlt : i < l.length := by omega
    have hx : (l[i]).size ≤ 200 := h.2 _ (List.getElem_mem hlt)
    have step : ∀ y, y = fw l[i] → escape_Join.l0 K (out ++ [y]) l (l.length : Int) (wrap64 ((i : Int) + 1)) = strings_Join.f (out ++ (l.drop i).map fw) (⟨#[32]⟩ : ByteArray) := by
      rintro y rfl
      rw [w64 (by omega) (by omega), show ((i : Int) + 1) = ((i + 1 : Nat) : Int) by omega, ih (i + 1) _ K (by omega) (by rw [List.length_append, List.length_singleton]; omega) (by omega),
        List.drop_eq_getElem_cons hlt, List.map_cons, List.append_assoc]; rfl
    have hq := quote_f l[i] (by omega) K (by omega)
    have hs := span_f l[i] (by omega) K (by omega)
    have hsp := spn_le (bl l[i])
    rw [bl_len] at hsp
    simp only [escape_Join.l0]
    rw [if_pos (by omega), if_pos (by omega), if_pos (by omega), rd_at l i hlt, hq]
    by_cases h0 : (l[i]).toList = []
    · rw [if_pos h0, Option.bind_some, if_pos (by omega)]
      refine step _ (fw_quo _ ?_).symm
      rw [nil_iff] at h0
      unfold pl
      rw [decide_eq_true_eq]
      intro hh; exact hh.1 (by rw [← bl_len, h0]; rfl)
    · rw [if_neg h0]
      rw [nil_iff] at h0
      have h0' : (l[i]).size ≠ 0 := fun h' => h0 (List.eq_nil_of_length_eq_zero (by rw [bl_len]; exact h'))
      rw [if_pos (by omega)]
      by_cases h34 : bt l[i] 0 = 34
      · rw [if_pos h34, Option.bind_some, if_pos (by omega)]
        refine step _ (fw_quo _ ?_).symm
        unfold pl
        rw [decide_eq_true_eq]
        exact fun hh => hh.2.1 h34
      · rw [if_neg h34, hs, Option.bind_some, Option.bind_some]
        by_cases hc : (spn (bl l[i]) : Int) < ((l[i]).size : Int)
        · rw [if_pos hc, if_pos (by omega)]
          refine step _ (fw_quo _ ?_).symm
          unfold pl
          rw [decide_eq_true_eq]
          exact fun hh => by have := hh.2.2; omega
        · rw [if_neg hc, if_pos (by omega)]
          refine step _ (fw_pl _ ?_).symm
          unfold pl
          rw [decide_eq_true_eq]
          exact ⟨h0', h34, by omega⟩
theorem ejoin_f (l : List ByteArray) (h : Light l) (K : Nat) (hK : 700 ≤ K) : escape_Join.f K l = some (strOfNums (jn (l.map fb))) := by
  unfold escape_Join.f
  have h30 := h.1
  have := ejoin_l0 l h l.length 0 [] K (by omega) (by simp) (by omega)
  rw [List.drop_zero, List.nil_append, join_f l h] at this
  exact this
theorem rjoin_j1 (l : List ByteArray) (h : Light l) (i : Nat) (a : List Int) (K : Nat) (hi : i < l.length) (ha : a.length ≤ 100000) (hK : 1000 ≤ K) :
    noonmarkref02_Join.j1 (K + 1) l (strOfNums a) (i : Int) = noonmarkref02_Join.l0 K l (strOfNums (a ++ fb l[i])) ((i + 1 : Nat) : Int) := by
  have h30 := h.1
  have hx : (l[i]).size ≤ 200 := h.2 _ (List.getElem_mem hi)
  have hfl := fb_len l[i] hx
  simp only [noonmarkref02_Join.j1]
  rw [if_pos (by omega), if_pos (by omega), rd_at l i hi, plain_f _ (by omega) K (by omega), Option.bind_some, w64 (by omega) (by omega), show ((i : Int) + 1) = ((i + 1 : Nat) : Int) by omega]
  by_cases hp : pl l[i] = true
  · have e := fw_pl _ hp
    rw [if_pos hp, if_pos (by rw [strOfNums_size]; omega)]
    conv => lhs; rw [← e]
    unfold fw
    rw [str_append]
  · have e := fw_quo _ hp
    rw [if_neg hp, rquote_f _ (by omega) K (by omega), Option.bind_some, ← e]
    have hfs : (fw l[i]).size = (fb l[i]).length := strOfNums_size _
    rw [if_pos (by rw [strOfNums_size, hfs]; omega)]
    unfold fw
    rw [str_append]
theorem rjoin_l0 (l : List ByteArray) (h : Light l) : ∀ (m i : Nat) (a : List Int) (K : Nat), i + m = l.length → 1 ≤ i → a.length ≤ 803 * i → 2 * m + 1100 ≤ K →
    noonmarkref02_Join.l0 K l (strOfNums a) (i : Int) = some (strOfNums (a ++ sp ((l.drop i).map fb))) := by
  have h30 := h.1
  intro m
  induction m with
  | zero =>
    intro i a K hi h1 ha hK
    obtain ⟨K, rfl⟩ : ∃ q, K = q + 1 := ⟨K - 1, by omega⟩
    simp only [noonmarkref02_Join.l0]
    rw [if_neg (by omega), List.drop_of_length_le (by omega)]
    simp [sp]
  | succ m ih =>
    intro i a K hi h1 ha hK
    obtain ⟨K, rfl⟩ : ∃ q, K = q + 1 + 1 := ⟨K - 2, by omega⟩
    have hlt : i < l.length := by omega
    have hfl := fb_len l[i] (h.2 _ (List.getElem_mem hlt))
    have hj := rjoin_j1 l h i (a ++ [32]) K hlt (by rw [List.length_append, List.length_singleton]; omega) (by omega)
    simp only [noonmarkref02_Join.l0]
    rw [if_pos (by omega), if_pos (by omega), if_pos (by rw [strOfNums_size]; omega), show (⟨#[32]⟩ : ByteArray) = strOfNums [32] from rfl, str_append, hj,
      ih (i + 1) _ K (by omega) (by omega) (by rw [List.length_append, List.length_append, List.length_singleton]; omega) (by omega), List.drop_eq_getElem_cons hlt, List.map_cons, sp_cons]
    simp [List.append_assoc]
theorem rjoin_f (l : List ByteArray) (h : Light l) (K : Nat) (hK : 1300 ≤ K) : noonmarkref02_Join.f K l = some (strOfNums (jn (l.map fb))) := by
  have h30 := h.1
  obtain ⟨K, rfl⟩ : ∃ q, K = q + 1 + 1 := ⟨K - 2, by omega⟩
  unfold noonmarkref02_Join.f
  cases l with
  | nil =>
    simp only [noonmarkref02_Join.l0]
    rfl
  | cons x r =>
    have hfl := fb_len x (h.2 x (by simp))
    have hlen : (x :: r).length = r.length + 1 := rfl
    have hj := rjoin_j1 (x :: r) h 0 [] K (by simp) (by simp) (by omega)
    simp only [noonmarkref02_Join.l0]
    rw [if_pos (by rw [hlen]; omega), if_neg (by omega), show (⟨#[]⟩ : ByteArray) = strOfNums [] from rfl, show (0 : Int) = ((0 : Nat) : Int) from rfl, hj]
    have := rjoin_l0 (x :: r) h r.length 1 ([] ++ fb (x :: r)[0]) K (by rw [hlen]; omega) (by omega) (by simp; omega) (by omega)
    rw [show (0 + 1 : Nat) = 1 from rfl, this]
    rfl

/-! Fields undoes Join -/
theorem spn_all (l m : List Int) (h : spn l = l.length) : spn (l ++ m) = l.length + spn m := by
  induction l with
  | nil => simp
  | cons c r ih =>
    rw [spn_cons] at h
    by_cases hc : 32 < c ∧ c ≤ 126
    · rw [if_pos hc, List.length_cons] at h
      rw [List.cons_append, spn_cons, if_pos hc, ih (by omega), List.length_cons]; omega
    · rw [if_neg hc, List.length_cons] at h; omega
theorem spn_sp (L : List (List Int)) : spn (sp L) = 0 := by
  cases L with
  | nil => rfl
  | cons y r => rw [sp_cons, spn_cons, if_neg (by omega)]
theorem back : ∀ (r : List ByteArray) (x : ByteArray) (n : Nat) (s : ByteArray) (out : List ByteArray), bl s = fb x ++ sp (r.map fb) → s.size ≤ 100000 → r.length + 1 ≤ n → fl n s out = (out ++ x :: r, 0) := by
  intro r
  induction r with
  | nil =>
    intro x n s out hs hz hn
    obtain ⟨n, rfl⟩ : ∃ q, n = q + 1 := ⟨n - 1, by omega⟩
    rw [List.map_nil, show sp [] = [] from rfl, List.append_nil] at hs
    have hsx : s = fw x := bl_inj (by rw [hs, bl_fw])
    simp only [fl]
    by_cases hp : pl x = true
    · have e := fw_pl _ hp
      rw [e] at hsx
      subst hsx
      unfold pl at hp
      rw [decide_eq_true_eq] at hp
      have hf := from_size s s.size
      rw [if_neg (fun h => hp.2.1 h.2), if_neg (by omega), hp.2.2, if_pos (by omega)]
      congr 2
      simp only [List.cons.injEq, and_true]
      apply bl_inj
      rw [bl_upto, List.take_of_length_le (by rw [bl_len]; omega)]
    · have e := fw_quo _ hp
      have hu := unquote_quo (bl x) ByteArray.empty (bl_byte x) (by rw [ByteArray.append_empty, ← e, ← hsx]; exact hz)
      rw [ByteArray.append_empty, ← e, ← hsx, unquote_uq s hz] at hu
      have hu' := Option.some.inj hu
      have hsz : s.size = (quo (bl x)).length := by rw [hsx, e, strOfNums_size]
      have hq0 : (quo (bl x)).length = (flat (bl x)).length + 2 := by unfold quo; simp
      have h34 : 0 < s.size ∧ bt s 0 = 34 := by
        refine ⟨by omega, ?_⟩
        have hd := bl_drop s 0 (by omega)
        rw [List.drop_zero, hsx, bl_fw] at hd
        unfold fb at hd
        rw [if_neg hp] at hd
        unfold quo at hd
        injection hd with hd _
        rw [hsx]; exact hd.symm
      have hf := from_size s (quo (bl x)).length
      rw [if_pos h34, hu']
      dsimp only
      rw [if_pos rfl, Int.toNat_natCast, if_pos (by omega), str_bl]
  | cons y r ih =>
    intro x n s out hs hz hn
    obtain ⟨n, rfl⟩ : ∃ q, n = q + 1 := ⟨n - 1, by omega⟩
    rw [List.map_cons, sp_cons] at hs
    rw [List.length_cons] at hn
    -- behind the first text
    have rest : ∀ (out : List ByteArray), (let t := s.extract (fb x).length s.size
        if t.size = 0 then (out, 0) else if bt t 0 = 32 then fl n (t.extract 1 t.size) out else ([], 3)) = (out ++ y :: r, 0) := by
      intro out
      have hb : bl (s.extract (fb x).length s.size) = 32 :: (fb y ++ sp (r.map fb)) := by rw [bl_from, hs, List.drop_left]
      have hsz := from_size s (fb x).length
      generalize s.extract (fb x).length s.size = t at *
      have htl : t.size = (fb y ++ sp (r.map fb)).length + 1 := by rw [← bl_len, hb]; rfl
      have hd := bl_drop t 0 (by omega)
      rw [List.drop_zero, hb] at hd
      injection hd with hd _
      have h2 := from_size t 1
      dsimp only
      rw [if_neg (by omega), if_pos (show bt t 0 = 32 from hd.symm)]
      exact ih y n (t.extract 1 t.size) out (by rw [bl_from, hb]; rfl) (by omega) (by omega)
    have hsl : s.size = (fb x).length + (32 :: (fb y ++ sp (r.map fb))).length := by rw [← bl_len, hs, List.length_append]
    rw [List.length_cons] at hsl
    simp only [fl]
    by_cases hp : pl x = true
    · have hfb : fb x = bl x := by unfold fb; rw [if_pos hp]
      unfold pl at hp
      rw [decide_eq_true_eq] at hp
      have hsp : spn (bl s) = x.size := by
        rw [hs, hfb, spn_all _ _ (by rw [bl_len]; exact hp.2.2), bl_len, spn_cons, if_neg (by omega)]; omega
      have h34 : ¬ (0 < s.size ∧ bt s 0 = 34) := by
        rintro ⟨h0, h⟩
        have hd := bl_drop s 0 h0
        have hdx := bl_drop x 0 (by omega)
        rw [List.drop_zero] at hd hdx
        rw [hs, hfb, hdx, List.cons_append] at hd
        injection hd with hd _
        exact hp.2.1 (hd.trans h)
      rw [if_neg h34, if_neg (by omega), hsp]
      have := rest (out ++ [s.extract 0 x.size])
      rw [hfb, bl_len] at this
      rw [this, List.append_assoc]
      congr 2
      simp only [List.cons_append, List.nil_append, List.cons.injEq, and_true]
      apply bl_inj
      rw [bl_upto, hs, hfb, List.take_left' (bl_len x)]
    · have hfb : fb x = quo (bl x) := by unfold fb; rw [if_neg hp]
      have hsx : s = strOfNums (quo (bl x)) ++ strOfNums (32 :: (fb y ++ sp (r.map fb))) := by
        apply bl_inj
        rw [str_append, bl_str, hs, hfb]
        intro c hc
        rcases List.mem_append.1 hc with hc | hc
        · have := quo_byte (bl x) (bl_byte x) c hc; omega
        · have := sp_byte (y :: r) c (by rw [List.map_cons, sp_cons]; exact hc); exact this
      have hu := unquote_quo (bl x) (strOfNums (32 :: (fb y ++ sp (r.map fb)))) (bl_byte x) (by rw [← hsx]; exact hz)
      rw [← hsx, unquote_uq s hz] at hu
      have hu' := Option.some.inj hu
      have hq0 : (quo (bl x)).length = (flat (bl x)).length + 2 := by unfold quo; simp
      have h34 : 0 < s.size ∧ bt s 0 = 34 := by
        refine ⟨by omega, ?_⟩
        have hd := bl_drop s 0 (by omega)
        rw [List.drop_zero, hs, hfb] at hd
        unfold quo at hd
        rw [List.cons_append] at hd
        injection hd with hd _
        exact hd.symm
      rw [if_pos h34, hu']
      dsimp only
      rw [if_pos rfl, Int.toNat_natCast, str_bl]
      have := rest (out ++ [x])
      rw [hfb] at this
      rw [this, List.append_assoc]
      rfl
theorem fields_join (l : List ByteArray) (h : Light l) (K : Nat) (hK : 100000 ≤ K) : escape_Fields.f K (strOfNums (jn (l.map fb))) = some (l, 0) := by
  have hj := jn_len l h
  have hz := strOfNums_size (jn (l.map fb))
  rw [fields_f _ (by omega) K (by omega)]
  cases l with
  | nil => rfl
  | cons x r =>
    have hbl := bl_str _ (jn_byte (x :: r))
    generalize strOfNums (jn ((x :: r).map fb)) = s at *
    have h30 := h.1
    have hbl' : bl s = fb x ++ sp (r.map fb) := by rw [hbl]; rfl
    have hr : r.length ≤ (sp (r.map fb)).length := by
      clear h hj hz hbl hbl' h30
      induction r with
      | nil => simp
      | cons y r ih => rw [List.map_cons, sp_cons]; simp only [List.length_cons, List.length_append]; omega
    have hf1 : 1 ≤ (fb x).length := by
      unfold fb
      split
      · rename_i hp; unfold pl at hp; rw [decide_eq_true_eq] at hp; rw [bl_len]; omega
      · unfold quo; simp
    have hs : s.size = (fb x).length + (sp (r.map fb)).length := by rw [← bl_len, hbl', List.length_append]
    rw [if_neg (by omega), back r x (s.size + 1) s [] hbl' (by omega) (by omega)]
    rfl
theorem fl_len : ∀ (n : Nat) (s : ByteArray) (out : List ByteArray), (fl n s out).1.length ≤ out.length + n := by
  intro n
  induction n with
  | zero => intro s out; simp [fl]
  | succ n ih =>
    intro s out
    have h1 : ∀ (t : ByteArray) (q : List ByteArray), q.length ≤ out.length + 1 → (if t.size = 0 then (q, (0 : Int)) else if bt t 0 = 32 then fl n (t.extract 1 t.size) q else ([], 3)).1.length ≤ out.length + (n + 1) := by
      intro t q hq
      split
      · simp only; omega
      · split
        · have := ih (t.extract 1 t.size) q; omega
        · simp
    simp only [fl]
    split
    · split
      · exact h1 _ _ (by simp)
      · simp
    · split
      · simp
      · exact h1 _ _ (by simp)

end Go.Proofs.Ytmohadimhapacaa.Plain
