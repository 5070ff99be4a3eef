/- Show, the program's and the reference's, and that Fields undoes it. -/
import Derived.Test.YtbhbjlohmalicaaPlainC
import Derived.Test.YtbhbjlohmalicaaS10
import Derived.Lib.IndexLaws
namespace Go.Proofs.Ytbhbjlohmalicaa.Plain
open Go.RowKit Go.Proofs.Ytbhbjlohmalicaa.S Go.Proofs.YtbhbjlohmalicaaW.PrintWords Go.Proofs.YtbhbjlohmalicaaW.PrintLast
set_option linter.unusedVariables false
set_option linter.unusedSimpArgs false

theorem bt_byte (b : ByteArray) (i : Int) : 0 ≤ bt b i ∧ bt b i < 256 := by
  unfold bt
  split
  · have := UInt8.toNat_lt (b[i.toNat])
    omega
  · omega
theorem bl_byte (b : ByteArray) : ∀ c ∈ bl b, 0 ≤ c ∧ c < 256 := by
  intro c hc
  simp only [bl, List.mem_map] at hc
  obtain ⟨x, _, rfl⟩ := hc
  have := UInt8.toNat_lt x
  omega
theorem bl_str (l : List Int) (h : ∀ c ∈ l, 0 ≤ c ∧ c < 256) : bl (strOfNums l) = l := by
  unfold bl
  rw [strOfNums_data, List.map_map]
  conv => rhs; rw [← List.map_id l]
  apply List.map_congr_left
  intro c hc
  have := h c hc
  simp only [Function.comp, id, UInt8.toNat_ofNat']
  omega
theorem bl_inj {a b : ByteArray} (h : bl a = bl b) : a = b := by rw [← str_bl a, h, str_bl]
theorem rd_at (l : List ByteArray) (i : Nat) (h : i < l.length) : rdOf ByteArray.empty l (i : Int) = l[i] := by
  unfold rdOf; rw [Int.toNat_natCast, List.getD_eq_getElem?_getD, List.getElem?_eq_getElem h]; rfl
theorem empty_iff (b : ByteArray) : (b.toList == ([] : List UInt8)) = (bl b).isEmpty := by
  rw [ByteArray.toList_eq]
  unfold bl
  cases b.data.toList <;> rfl

/-- not too many texts, and none too long -/
def Light (l : List ByteArray) : Prop := l.length ≤ 40 ∧ ∀ x ∈ l, x.size ≤ 300
theorem light_l0 (l : List ByteArray) (hl : l.length ≤ 40) : ∀ (m i K : Nat), i + m = l.length → m + 1 ≤ K → ∃ b, noonmarklaw07_light.l0 K l (i : Int) = some b ∧ (b = true → ∀ x ∈ l.drop i, x.size ≤ 300) := by
  intro m
  induction m with
  | zero =>
    intro i K hi hK
    obtain ⟨K, rfl⟩ : ∃ q, K = q + 1 := ⟨K - 1, by omega⟩
    simp only [noonmarklaw07_light.l0]
    rw [if_neg (by omega)]
    exact ⟨true, rfl, fun _ x hx => by rw [List.drop_of_length_le (by omega)] at hx; cases hx⟩
  | succ m ih =>
    intro i K hi hK
    obtain ⟨K, rfl⟩ : ∃ q, K = q + 1 := ⟨K - 1, by omega⟩
    have hlt : i < l.length := by omega
    simp only [noonmarklaw07_light.l0]
    rw [if_pos (by omega), if_pos (by omega), rd_at l i hlt]
    by_cases h : ((l[i]).size : Int) > 300
    · rw [if_pos h]; exact ⟨false, rfl, fun h => by cases h⟩
    · rw [if_neg h, w64 (by omega) (by omega), show ((i : Int) + 1) = ((i + 1 : Nat) : Int) by omega]
      obtain ⟨b, e, hb⟩ := ih (i + 1) K (by omega) (by omega)
      refine ⟨b, e, fun ht x hx => ?_⟩
      rw [List.drop_eq_getElem_cons hlt] at hx
      rcases List.mem_cons.1 hx with rfl | hx
      · omega
      · exact hb ht x hx
theorem light_f (l : List ByteArray) (K : Nat) (hK : 60 ≤ K) : ∃ b, noonmarklaw07_light.f K l = some b ∧ (b = true → Light l) := by
  unfold noonmarklaw07_light.f
  by_cases h : (l.length : Int) > 40
  · rw [if_pos h]; exact ⟨false, rfl, fun h => by cases h⟩
  · rw [if_neg h]
    obtain ⟨b, e, hb⟩ := light_l0 l (by omega) l.length 0 K (by omega) (by omega)
    refine ⟨b, e, fun ht => ⟨by omega, ?_⟩⟩
    have := hb ht
    rwa [List.drop_zero] at this

/-! how a text is written among others -/
def wq (c : Int) : Bool := whB c || c == 35
def qd (x : ByteArray) : Bool := (bl x).isEmpty || (bl x).any wq
def has (x : ByteArray) : Bool := (bl x).any (· == 34)
def fb (x : ByteArray) : List Int := if qd x = true then 34 :: (bl x ++ [34]) else bl x
def fw (x : ByteArray) : ByteArray := strOfNums (fb x)
theorem fb_byte (x : ByteArray) : ∀ c ∈ fb x, 0 ≤ c ∧ c < 256 := by
  intro c hc
  unfold fb at hc
  split at hc
  · rcases List.mem_cons.1 hc with rfl | hc
    · omega
    · rcases List.mem_append.1 hc with hc | hc
      · exact bl_byte x c hc
      · rw [List.mem_singleton] at hc; omega
  · exact bl_byte x c hc
theorem bl_fw (x : ByteArray) : bl (fw x) = fb x := bl_str _ (fb_byte x)
theorem fb_len (x : ByteArray) : (fb x).length ≤ x.size + 2 := by
  unfold fb
  split
  · simp only [List.length_cons, List.length_append, List.length_nil, bl_len]; omega
  · rw [bl_len]; omega
theorem lit34 : (⟨#[34]⟩ : ByteArray) = strOfNums [34] := rfl
theorem lit32 : (⟨#[32]⟩ : ByteArray) = strOfNums [32] := rfl
theorem fw_q (x : ByteArray) (h : qd x = true) : ((⟨#[34]⟩ : ByteArray) ++ x) ++ (⟨#[34]⟩ : ByteArray) = fw x := by
  unfold fw fb
  rw [if_pos h, lit34]
  conv => lhs; rw [← str_bl x]
  rw [← str_append, ← str_append]
  simp
theorem fw_n (x : ByteArray) (h : ¬ qd x = true) : fw x = x := by unfold fw fb; rw [if_neg h, str_bl]

/-! lists of texts as one -/
def sp (L : List (List Int)) : List Int := L.flatMap fun y => 32 :: y
def jn : List (List Int) → List Int
  | [] => []
  | x :: r => x ++ sp r
theorem sp_cons (y : List Int) (r : List (List Int)) : sp (y :: r) = 32 :: (y ++ sp r) := rfl
theorem sp_len (L : List ByteArray) (h : ∀ x ∈ L, x.size ≤ 300) : (sp (L.map fb)).length ≤ 303 * L.length := by
  induction L with
  | nil => simp [sp]
  | cons x r ih =>
    have h1 := fb_len x
    have h1' := h x (by simp)
    have h2 := ih (fun y hy => h y (by simp [hy]))
    rw [List.map_cons, sp_cons, List.length_cons, List.length_append, List.length_cons]
    omega
theorem jn_len (L : List ByteArray) (h : Light L) : (jn (L.map fb)).length ≤ 12120 := by
  cases L with
  | nil => simp [jn]
  | cons x r =>
    have h1 := fb_len x
    have h1' := h.2 x (by simp)
    have h2 := sp_len r (fun y hy => h.2 y (by simp [hy]))
    have h3 := h.1
    rw [List.length_cons] at h3
    simp only [List.map_cons, jn, List.length_append]
    omega
theorem sp_byte (L : List ByteArray) : ∀ c ∈ sp (L.map fb), 0 ≤ c ∧ c < 256 := by
  induction L with
  | nil => intro c hc; cases hc
  | cons x r ih =>
    intro c hc
    rw [List.map_cons, sp_cons] at hc
    rcases List.mem_cons.1 hc with rfl | hc
    · omega
    · rcases List.mem_append.1 hc with hc | hc
      · exact fb_byte x c hc
      · exact ih c hc
theorem jn_byte (L : List ByteArray) : ∀ c ∈ jn (L.map fb), 0 ≤ c ∧ c < 256 := by
  cases L with
  | nil => intro c hc; cases hc
  | cons x r =>
    intro c hc
    simp only [List.map_cons, jn] at hc
    rcases List.mem_append.1 hc with hc | hc
    · exact fb_byte x c hc
    · exact sp_byte r c hc
theorem lib_jn (L : List ByteArray) : (Lib.join (L.map (·.data.toList)) [32]).map (fun c => (c.toNat : Int)) = jn (L.map bl) := by
  cases L with
  | nil => rfl
  | cons x r =>
    rw [List.map_cons, Lib.join_cons, List.map_append, List.map_cons]
    show bl x ++ _ = bl x ++ sp (r.map bl)
    congr 1
    induction r with
    | nil => rfl
    | cons y r ih =>
      rw [List.map_cons, List.map_cons, sp_cons]
      simp only [Lib.joinTail, List.map_cons, List.flatten_cons, List.map_append] at ih ⊢
      rw [ih]; rfl
theorem join_f (L : List ByteArray) (h : Light L) : strings_Join.f (L.map fw) (⟨#[32]⟩ : ByteArray) = some (strOfNums (jn (L.map fb))) := by
  have e : (L.map fw).map bl = L.map fb := by
    rw [List.map_map]; apply List.map_congr_left; intro x _; exact bl_fw x
  have hl := lib_jn (L.map fw)
  rw [e] at hl
  have hlen := congrArg List.length hl
  rw [List.length_map] at hlen
  have hj := jn_len L h
  have h30 := h.1
  unfold strings_Join.f
  rw [show ((⟨#[32]⟩ : ByteArray).data.toList) = [32] from rfl, if_pos ⟨by omega, by rw [List.length_map]; omega⟩]
  congr 1
  apply bl_inj
  rw [bl_str _ (jn_byte L)]
  exact hl
theorem index34 (x : ByteArray) : ∃ t, strings_IndexByte.f x 34 = some t ∧ (t ≥ 0 ↔ has x = true) := by
  refine ⟨Lib.indexByte x.data.toList 34, rfl, ?_⟩
  unfold has bl
  rw [List.any_map]
  have key : ∀ l : List UInt8, Lib.indexByte l 34 ≥ 0 ↔ (l.any ((· == 34) ∘ fun c => (c.toNat : Int))) = true := by
    intro l
    rw [List.any_eq_true]
    constructor
    · intro h
      obtain ⟨o, ho⟩ := Int.eq_ofNat_of_zero_le h
      have := (Lib.indexByte_some ho).1
      exact ⟨34, List.mem_of_getElem? this, by decide⟩
    · rintro ⟨c, hc, he⟩
      have hc34 : c = 34 := by
        simp only [Function.comp, beq_iff_eq] at he
        apply UInt8.toNat_inj.1
        show c.toNat = 34
        omega
      subst hc34
      have h1 := Lib.indexByte_ge l 34
      by_cases h : Lib.indexByte l 34 ≥ 0
      · exact h
      · obtain ⟨k, hk⟩ := List.mem_iff_getElem?.1 hc
        exact absurd hk (Lib.indexByte_none (by omega) k)
  exact key _
theorem lwhite_f (c : Int) : lexer_white.f c = some (whB c) := by
  unfold lexer_white.f whB
  by_cases h1 : c = 32
  · rw [if_pos h1]; simp [h1]
  · rw [if_neg h1]
    by_cases h2 : 9 ≤ c
    · rw [if_pos h2]; simp [h1, h2]
    · rw [if_neg h2]; simp [h1, h2]
theorem rd_bl (x : ByteArray) (i : Nat) (h : i < x.size) : rd (strNums x) (i : Int) = bt x i := by
  rw [← bl_get x i h]
  unfold rd
  rw [Int.toNat_natCast, List.getD_eq_getElem?_getD]
  show ((bl x)[i]?).getD 0 = _
  rw [List.getElem?_eq_getElem (by rw [bl_len]; exact h)]; rfl
theorem inner (x : ByteArray) (hx : x.size ≤ 300) (out l : List ByteArray) (ho : out.length ≤ 1000) (n i : Int) : ∀ (m j K : Nat) (b : Bool), j + m = x.size →
    lexer_Show.l1 (K + m + 1) out x b l n i (strNums x) ((strNums x).length : Int) (j : Int) = lexer_Show.l0 K (out ++ [if (b || ((bl x).drop j).any wq) = true then ((⟨#[34]⟩ : ByteArray) ++ x) ++ (⟨#[34]⟩ : ByteArray) else x]) l n (wrap64 (i + 1)) := by
  have hlen : (strNums x).length = x.size := strNums_len x
  intro m
  induction m with
  | zero =>
    intro j K b hj
    rw [bl_end x j (by omega), List.any_nil, Bool.or_false]
    rw [lexer_Show.l1, if_neg (by omega)]
    cases b with
    | true => rw [if_pos rfl, if_pos rfl, if_pos (by omega), if_pos (by rw [ByteArray.size_append, show (⟨#[34]⟩ : ByteArray).size = 1 from rfl]; omega), if_pos (by omega)]
    | false => rw [if_neg (show ¬ (false = true) by decide), if_neg (show ¬ (false = true) by decide), if_pos (show out.length < 8796093022208 by omega)]
  | succ m ih =>
    intro j K b hj
    have hb := bl_drop x j (by omega)
    have hih := fun b => ih (j + 1) K b (by omega)
    have e1 : wrap64 ((j : Int) + 1) = ((j + 1 : Nat) : Int) := by rw [w64 (by omega) (by omega)]; omega
    rw [show K + (m + 1) + 1 = (K + m + 1) + 1 by omega, hb, List.any_cons]
    rw [lexer_Show.l1]
    rw [if_pos (by omega), if_pos (by omega), if_pos (by omega), e1, rd_bl x j (by omega), lwhite_f, Option.bind_some]
    cases b with
    | true => rw [if_pos rfl, hih true]; simp only [Bool.true_or]
    | false =>
      rw [if_neg (by decide)]
      unfold wq at *
      by_cases hw : whB (bt x j) = true
      · rw [if_pos hw, hih true, hw]; simp only [Bool.true_or, Bool.or_true, Bool.false_or]
      · rw [if_neg hw, hih (bt x j == 35), Bool.eq_false_iff.2 hw]; simp only [Bool.false_or]
theorem eshow_l0 (l : List ByteArray) (h : Light l) : ∀ (m i : Nat) (out : List ByteArray) (K : Nat), i + m = l.length → out.length ≤ i → 310 * m + 10 ≤ K →
    lexer_Show.l0 K out l (l.length : Int) (i : Int) = if (l.drop i).any has = true then some ((⟨#[]⟩ : ByteArray), 1) else
      (strings_Join.f (out ++ (l.drop i).map fw) (⟨#[32]⟩ : ByteArray)).bind fun t => if (t.size : Int) > 200 then some ((⟨#[]⟩ : ByteArray), 17) else some (t, 0) := by
  have h40 := h.1
  intro m
  induction m with
  | zero =>
    intro i out K hi ho hK
    obtain ⟨K, rfl⟩ : ∃ q, K = q + 1 := ⟨K - 1, by omega⟩
    simp only [lexer_Show.l0]
    rw [if_neg (by omega), List.drop_of_length_le (by omega), List.map_nil, List.append_nil, List.any_nil, if_neg (by decide)]
  | succ m ih =>
    intro i out K hi ho hK
    have hlt : i < l.length := by omega
    have hx : (l[i]).size ≤ 300 := h.2 _ (List.getElem_mem hlt)
    obtain ⟨K, rfl⟩ : ∃ q, K = (q + (l[i]).size + 1) + 1 := ⟨K - (l[i]).size - 2, by omega⟩
    obtain ⟨t, et, ht⟩ := index34 l[i]
    simp only [lexer_Show.l0]
    rw [if_pos (by omega), if_pos (by omega), if_pos (by omega), rd_at l i hlt, et, Option.bind_some, List.drop_eq_getElem_cons hlt, List.any_cons, List.map_cons]
    by_cases hh : has l[i] = true
    · rw [if_pos (ht.2 hh), hh, Bool.true_or, if_pos rfl]
    · rw [if_neg (fun h' => hh (ht.1 h')), Option.bind_some]
      have hin := inner l[i] hx out l (by omega) (l.length : Int) (i : Int) (l[i]).size 0 K ((l[i]).toList == ([] : List UInt8)) (by omega)
      rw [List.drop_zero, empty_iff] at hin
      rw [show (0 : Int) = ((0 : Nat) : Int) from rfl, empty_iff, hin, w64 (by omega) (by omega), show ((i : Int) + 1) = ((i + 1 : Nat) : Int) by omega]
      have he : (if ((bl l[i]).isEmpty || (bl l[i]).any wq) = true then ((⟨#[34]⟩ : ByteArray) ++ l[i]) ++ (⟨#[34]⟩ : ByteArray) else l[i]) = fw l[i] := by
        rw [show ((bl l[i]).isEmpty || (bl l[i]).any wq) = qd l[i] from rfl]
        by_cases hq : qd l[i] = true
        · rw [if_pos hq]; exact fw_q _ hq
        · rw [if_neg hq]; exact (fw_n _ hq).symm
      rw [he, ih (i + 1) _ K (by omega) (by rw [List.length_append, List.length_singleton]; omega) (by omega), Bool.eq_false_iff.2 hh, Bool.false_or, List.append_assoc]
      rfl
/-- what Show gives -/
def shown (l : List ByteArray) : ByteArray × Int := if l.any has = true then (⟨#[]⟩, 1) else if (jn (l.map fb)).length > 200 then (⟨#[]⟩, 17) else (strOfNums (jn (l.map fb)), 0)
theorem eshow_f (l : List ByteArray) (h : Light l) (K : Nat) (hK : 13000 ≤ K) : lexer_Show.f K l = some (shown l) := by
  have h40 := h.1
  unfold lexer_Show.f shown
  have := eshow_l0 l h l.length 0 [] K (by omega) (by simp) (by omega)
  rw [List.drop_zero, List.nil_append, join_f l h, Option.bind_some, strOfNums_size] at this
  rw [show (0 : Int) = ((0 : Nat) : Int) from rfl, this]
  by_cases h1 : l.any has = true
  · rw [if_pos h1, if_pos h1]
  · rw [if_neg h1, if_neg h1]
    by_cases h2 : (jn (l.map fb)).length > 200
    · rw [if_pos (by omega), if_pos h2]
    · rw [if_neg (by omega), if_neg h2]; rfl

/-! the reference's -/
theorem rinner (l : List ByteArray) (i : Nat) (hi : i < l.length) (hx : (l[i]).size ≤ 300) (hl : l.length ≤ 40) (acc : ByteArray) : ∀ (m j K : Nat) (b : Bool), j + m = (l[i]).size →
    noonmarkref07_Show.l1 (K + m + 1) l acc (i : Int) b (j : Int) = if ((bl l[i]).drop j).any (· == 34) = true then some ((⟨#[]⟩ : ByteArray), 1) else noonmarkref07_Show.l1 (K + 1) l acc (i : Int) (b || ((bl l[i]).drop j).any wq) ((l[i]).size : Int) := by
  intro m
  induction m with
  | zero =>
    intro j K b hj
    obtain rfl : j = (l[i]).size := by omega
    rw [bl_end l[i] _ (by omega), List.any_nil, List.any_nil, Bool.or_false, if_neg (by decide)]

  | succ m ih =>
    intro j K b hj
    have hb := bl_drop l[i] j (by omega)
    have hih := fun b => ih (j + 1) K b (by omega)
    have e1 : wrap64 ((j : Int) + 1) = ((j + 1 : Nat) : Int) := by rw [w64 (by omega) (by omega)]; omega
    rw [show K + (m + 1) + 1 = (K + m + 1) + 1 by omega, hb, List.any_cons, List.any_cons]
    rw [noonmarkref07_Show.l1]
    rw [if_pos (by omega), if_pos (by omega), rd_at l i hi, if_pos (by omega), if_pos (by omega), e1, rwhite_f, Option.bind_some]
    by_cases h34 : bt l[i] j = 34
    · rw [if_pos h34, if_pos (by rw [h34]; rfl)]
    · rw [if_neg h34, show (bt l[i] j == 34) = false from beq_eq_false_iff_ne.2 h34, Bool.false_or]
      cases b with
      | true => rw [if_pos rfl, hih true]; simp only [Bool.true_or]
      | false =>
        rw [if_neg (by decide)]
        unfold wq at *
        by_cases hw : whB (bt l[i] j) = true
        · rw [if_pos hw, hih true, hw]; simp only [Bool.true_or, Bool.or_true, Bool.false_or]
        · rw [if_neg hw, hih (bt l[i] j == 35), Bool.eq_false_iff.2 hw]; simp only [Bool.false_or]
theorem rlast (l : List ByteArray) (i : Nat) (hi : i < l.length) (hl : l.length ≤ 40) (hx : (l[i]).size ≤ 300) (a : List Int) (ha : a.length ≤ 100000) (K : Nat) :
    noonmarkref07_Show.l1 (K + 1) l (strOfNums a) (i : Int) (qd l[i]) ((l[i]).size : Int) = noonmarkref07_Show.l0 K l (strOfNums (a ++ (if i = 0 then fb l[i] else 32 :: fb l[i]))) ((i + 1 : Nat) : Int) := by
  have e1 : wrap64 ((i : Int) + 1) = ((i + 1 : Nat) : Int) := by rw [w64 (by omega) (by omega)]; omega
  have hz := strOfNums_size a
  have s32 : (⟨#[32]⟩ : ByteArray).size = 1 := rfl
  have s34 : (⟨#[34]⟩ : ByteArray).size = 1 := rfl
  rw [noonmarkref07_Show.l1]
  rw [if_pos (by omega), if_pos (by omega), rd_at l i hi, if_neg (by omega), e1]
  by_cases h0 : i = 0
  · rw [if_neg (by omega), if_pos h0]
    by_cases hq : qd l[i] = true
    · rw [if_pos hq, if_pos (by omega), if_pos (by rw [ByteArray.size_append]; omega), if_pos (by rw [ByteArray.size_append, ByteArray.size_append]; omega)]
      have e := fw_q _ hq
      rw [show fb l[i] = bl (fw l[i]) from (bl_fw _).symm, str_append, str_bl, ← e, ByteArray.append_assoc, ByteArray.append_assoc, ByteArray.append_assoc]
    · rw [if_neg hq, if_pos (by omega)]
      have e := fw_n _ hq
      rw [show fb l[i] = bl (fw l[i]) from (bl_fw _).symm, str_append, str_bl, e]
  · rw [if_pos (by omega), if_neg h0, if_pos (by omega)]
    by_cases hq : qd l[i] = true
    · rw [if_pos hq, if_pos (by rw [ByteArray.size_append]; omega), if_pos (by rw [ByteArray.size_append, ByteArray.size_append]; omega), if_pos (by rw [ByteArray.size_append, ByteArray.size_append, ByteArray.size_append]; omega)]
      have e := fw_q _ hq
      rw [show (32 :: fb l[i]) = [32] ++ bl (fw l[i]) by rw [bl_fw]; rfl, str_append, str_append, str_bl, ← e, ← lit32]
      simp only [ByteArray.append_assoc]
    · rw [if_neg hq, if_pos (by rw [ByteArray.size_append]; omega)]
      have e := fw_n _ hq
      rw [show (32 :: fb l[i]) = [32] ++ bl (fw l[i]) by rw [bl_fw]; rfl, str_append, str_append, str_bl, e, ← lit32]
      simp only [ByteArray.append_assoc]
theorem rshow_l0 (l : List ByteArray) (h : Light l) : ∀ (m i : Nat) (a : List Int) (K : Nat), i + m = l.length → a.length ≤ 303 * i → 310 * m + 10 ≤ K →
    noonmarkref07_Show.l0 K l (strOfNums a) (i : Int) = if (l.drop i).any has = true then some ((⟨#[]⟩ : ByteArray), 1) else
      (let t := a ++ (if i = 0 then jn ((l.drop i).map fb) else sp ((l.drop i).map fb))
       if t.length > 200 then some ((⟨#[]⟩ : ByteArray), 17) else some (strOfNums t, 0)) := by
  have h40 := h.1
  intro m
  induction m with
  | zero =>
    intro i a K hi ha hK
    obtain ⟨K, rfl⟩ : ∃ q, K = q + 1 := ⟨K - 1, by omega⟩
    have hd : l.drop i = [] := List.drop_of_length_le (by omega)
    simp only [noonmarkref07_Show.l0]
    rw [if_neg (by omega), hd, List.any_nil, if_neg (show ¬ (false = true) by decide), strOfNums_size]
    have e : (if i = 0 then jn (List.map fb []) else sp (List.map fb [])) = [] := by split <;> rfl
    rw [e, List.append_nil]
    by_cases h2 : a.length > 200
    · rw [if_pos (by omega), if_pos h2]
    · rw [if_neg (by omega), if_neg h2]
  | succ m ih =>
    intro i a K hi ha hK
    have hlt : i < l.length := by omega
    have hx : (l[i]).size ≤ 300 := h.2 _ (List.getElem_mem hlt)
    have hfl := fb_len l[i]
    obtain ⟨K, rfl⟩ : ∃ q, K = (q + 1 + (l[i]).size) + 1 := ⟨K - (l[i]).size - 2, by omega⟩
    have hin := rinner l i hlt hx h40 (strOfNums a) (l[i]).size 0 K (((l[i]).size : Int) == 0) (by omega)
    rw [List.drop_zero] at hin
    have hq0 : ((((l[i]).size : Int) == 0) || (bl l[i]).any wq) = qd l[i] := by
      unfold qd
      congr 1
      rw [Bool.eq_iff_iff, beq_iff_eq, List.isEmpty_iff, ← List.length_eq_zero_iff, bl_len]
      omega
    rw [hq0, show ((0 : Nat) : Int) = (0 : Int) from rfl] at hin
    have hll : (if i = 0 then fb l[i] else 32 :: fb l[i]).length ≤ 303 := by
      split
      · omega
      · rw [List.length_cons]; omega
    simp only [noonmarkref07_Show.l0]
    rw [if_pos (by omega), if_pos (by omega), rd_at l i hlt, show K + 1 + (l[i]).size = K + (l[i]).size + 1 by omega, hin, List.drop_eq_getElem_cons hlt, List.any_cons]
    by_cases hh : has l[i] = true
    · rw [if_pos (show (bl l[i]).any (· == 34) = true from hh), hh, Bool.true_or, if_pos rfl]
    · rw [if_neg (show ¬ (bl l[i]).any (· == 34) = true from hh), Bool.eq_false_iff.2 hh, Bool.false_or, rlast l i hlt h40 hx a (by omega) K,
        ih (i + 1) _ K (by omega) (by rw [List.length_append]; omega) (by omega)]
      have e : a ++ (if i = 0 then fb l[i] else 32 :: fb l[i]) ++ (if i + 1 = 0 then jn ((l.drop (i + 1)).map fb) else sp ((l.drop (i + 1)).map fb)) =
          a ++ (if i = 0 then jn ((l[i] :: l.drop (i + 1)).map fb) else sp ((l[i] :: l.drop (i + 1)).map fb)) := by
        rw [if_neg (show ¬ i + 1 = 0 by omega), List.append_assoc, List.map_cons, sp_cons]
        congr 1
        by_cases h0 : i = 0
        · rw [if_pos h0, if_pos h0]; rfl
        · rw [if_neg h0, if_neg h0]; rfl
      rw [e]
theorem rshow_f (l : List ByteArray) (h : Light l) (K : Nat) (hK : 13000 ≤ K) : noonmarkref07_Show.f K l = some (shown l) := by
  have h40 := h.1
  unfold noonmarkref07_Show.f shown
  have := rshow_l0 l h l.length 0 [] K (by omega) (by simp) (by omega)
  rw [List.drop_zero, List.nil_append, if_pos rfl] at this
  rw [show (⟨#[]⟩ : ByteArray) = strOfNums [] from rfl, show (0 : Int) = ((0 : Nat) : Int) from rfl, this]
  by_cases h1 : l.any has = true
  · rw [if_pos h1, if_pos h1]; rfl
  · rw [if_neg h1, if_neg h1]
    by_cases h2 : (jn (l.map fb)).length > 200
    · rw [if_pos h2]; rw [if_pos h2]; rfl
    · rw [if_neg h2]; rw [if_neg h2]; rfl

end Go.Proofs.Ytbhbjlohmalicaa.Plain
