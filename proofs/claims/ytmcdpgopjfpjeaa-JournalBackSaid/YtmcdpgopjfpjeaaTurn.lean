/- A turned bit ends the reading. -/
import Derived.Test.YtmcdpgopjfpjeaaCat
namespace Go.Proofs.Ytmcdpgopjfpjeaa.S
open Go.RowKit Go.Proofs.YtmcdpgopjfpjeaaW.PrintWords Go.Proofs.YtmcdpgopjfpjeaaW.PrintLast Go.Proofs.YtmcdpgopjfpjeaaW.PrintMore
set_option linter.unusedVariables false
set_option linter.unusedSimpArgs false
theorem fr1_length (x : S24) : (fr1 x).length = x.f1.length + 10 := by unfold fr1; exact frameJ_len _ _
theorem xor_eq_zero {a b : Nat} (h : a ^^^ b = 0) : a = b := by
  have h1 : (a ^^^ b) ^^^ b = 0 ^^^ b := by rw [h]
  rw [Nat.xor_assoc, Nat.xor_self, Nat.xor_zero, Nat.zero_xor] at h1
  exact h1
theorem sN_zero {x : Nat} (hx : x < 4294967296) (h : sN x = 0) : x = 0 := by
  unfold sN at h
  have h1 := xor_eq_zero h
  split at h1 <;> omega
theorem sN_inj {a b : Nat} (ha : a < 4294967296) (hb : b < 4294967296) (h : sN a = sN b) : a = b := by
  have h1 : sN (a ^^^ b) = 0 := by rw [sN_xor, h, Nat.xor_self]
  exact xor_eq_zero (sN_zero (xor_lt ha hb) h1)
theorem s8_inj {a b : Nat} (ha : a < 4294967296) (hb : b < 4294967296) (h : s8 a = s8 b) : a = b := by
  unfold s8 at h
  have l : ∀ {n}, n < 4294967296 → sN n < 4294967296 := sN_lt
  exact sN_inj ha hb (sN_inj (l ha) (l hb) (sN_inj (l (l ha)) (l (l hb)) (sN_inj (l (l (l ha))) (l (l (l hb))) (sN_inj (l (l (l (l ha)))) (l (l (l (l hb)))) (sN_inj (l (l (l (l (l ha))))) (l (l (l (l (l hb))))) (sN_inj (l (l (l (l (l (l ha)))))) (l (l (l (l (l (l hb)))))) (sN_inj (l (l (l (l (l (l (l ha))))))) (l (l (l (l (l (l (l hb))))))) h)))))))
theorem xor_cancel {a b c : Nat} (h : a ^^^ c = b ^^^ c) : a = b := by
  have h1 : (a ^^^ c) ^^^ c = (b ^^^ c) ^^^ c := by rw [h]
  rw [Nat.xor_assoc, Nat.xor_assoc, Nat.xor_self, Nat.xor_zero, Nat.xor_zero] at h1
  exact h1
theorem xor_cancel' {a b c : Nat} (h : c ^^^ a = c ^^^ b) : a = b := xor_cancel (c := c) (by rw [Nat.xor_comm a, Nat.xor_comm b]; exact h)
theorem crcN_inj {l : List Int} (hl : Args.Bytes l) : ∀ {n m : Nat}, n < 4294967296 → m < 4294967296 → crcN l n = crcN l m → n = m := by
  induction l with
  | nil => intro n m _ _ h; exact h
  | cons c l ih =>
    intro n m hn hm h
    have hc := hl c (List.mem_cons_self ..)
    have hc' : c.toNat < 4294967296 := by omega
    have h1 := ih (fun b hb => hl b (List.mem_cons_of_mem _ hb)) (s8_lt (xor_lt hn hc')) (s8_lt (xor_lt hm hc')) h
    exact xor_cancel (s8_inj (xor_lt hn hc') (xor_lt hm hc') h1)
theorem crcN_append (u v : List Int) (n : Nat) : crcN (u ++ v) n = crcN v (crcN u n) := by unfold crcN; rw [List.foldl_append]
theorem crc_diff {u v : List Int} {x y : Int} (hu : Args.Bytes u) (hv : Args.Bytes v) (hx : 0 ≤ x ∧ x ≤ 255) (hy : 0 ≤ y ∧ y ≤ 255) (h : crcJ (u ++ x :: v) = crcJ (u ++ y :: v)) : x = y := by
  have hb : ∀ {z : Int}, 0 ≤ z ∧ z ≤ 255 → Args.Bytes (u ++ z :: v) := fun hz => bytes_append hu (fun b hb => by
    rcases List.mem_cons.1 hb with rfl | hb
    · exact hz
    · exact hv b hb)
  rw [crcJ_nat (hb hx), crcJ_nat (hb hy)] at h
  have h1 := xor_cancel' (Int.ofNat.inj h)
  rw [crcN_append, crcN_append] at h1
  have hn := crcN_lt hu (n := 4294967295) (by omega)
  have hx' : x.toNat < 4294967296 := by omega
  have hy' : y.toNat < 4294967296 := by omega
  have h2 := crcN_inj hv (s8_lt (xor_lt hn hx')) (s8_lt (xor_lt hn hy')) h1
  have h3 := xor_cancel' (s8_inj (xor_lt hn hx') (xor_lt hn hy') h2)
  omega
theorem crc_set {l : List Int} (hl : Args.Bytes l) {p : Nat} (hp : p < l.length) {v : Int} (hv : 0 ≤ v ∧ v ≤ 255) (h : crcJ (l.set p v) = crcJ l) : v = l[p] := by
  have e1 : l = l.take p ++ l[p] :: l.drop (p + 1) := by rw [← List.drop_eq_getElem_cons hp, List.take_append_drop]
  have e2 : l.set p v = l.take p ++ v :: l.drop (p + 1) := List.set_eq_take_append_cons_drop .. |>.trans (if_pos hp)
  have h1 : crcJ (l.take p ++ v :: l.drop (p + 1)) = crcJ (l.take p ++ l[p] :: l.drop (p + 1)) := by rw [← e1, ← e2]; exact h
  exact crc_diff (bytes_take hl p) (bytes_drop hl (p + 1)) hv (hl _ (List.getElem_mem hp)) h1
theorem rd_set_ne {l : List Int} {p : Nat} {v : Int} (i : Nat) (h : i ≠ p) : rd (l.set p v) (i : Int) = rd l (i : Int) := by
  simp only [rd, List.getD_eq_getElem?_getD, Int.toNat_natCast]
  rw [List.getElem?_set_ne (Ne.symm h)]
theorem headLen_set {l : List Int} {p : Nat} {v : Int} (h : p < 2 ∨ 6 ≤ p) : headLen (l.set p v) = headLen l := by
  have q2 := rd_set_ne (l := l) (p := p) (v := v) 2 (by omega)
  have q3 := rd_set_ne (l := l) (p := p) (v := v) 3 (by omega)
  have q4 := rd_set_ne (l := l) (p := p) (v := v) 4 (by omega)
  have q5 := rd_set_ne (l := l) (p := p) (v := v) 5 (by omega)
  unfold headLen
  exact congr (congr (congr (congrArg num4 q2) q3) q4) q5
theorem bytes_set {l : List Int} (hl : Args.Bytes l) (p : Nat) {v : Int} (hv : 0 ≤ v ∧ v ≤ 255) : Args.Bytes (l.set p v) := fun b hb => by
  rcases List.mem_or_eq_of_mem_set hb with h | h
  · exact hl b h
  · rw [h]; exact hv
/-- where a frame's byte, but one of its length, is another, no frame begins -/
theorem noFrame_turned {x : S24} (hk : okJ x.f0 x.f1 = true) (hB : Args.Bytes x.f1) {t : List Int} (hBt : Args.Bytes t) {p : Nat} (hp : p < x.f1.length + 10) (hp2 : p < 2 ∨ 6 ≤ p) {v : Int} (hv : 0 ≤ v ∧ v ≤ 255) (hne : v ≠ rd (fr1 x ++ t) (p : Int)) : NoFrame ((fr1 x ++ t).set p v) := by
  intro k c hk' hc' hpre
  obtain ⟨k0, k1, kc⟩ := okJ_spec.1 hk
  have hfl : (fr1 x).length = x.f1.length + 10 := fr1_length x
  have S := starts_of (s := fr1 x ++ t) ⟨k0, k1⟩ kc (List.prefix_append _ _)
  have S' := starts_of hk' hc' hpre
  obtain ⟨s, hs⟩ : ∃ s, s = fr1 x ++ t := ⟨_, rfl⟩
  rw [← hs] at S S' hne
  have hBs : Args.Bytes s := by rw [hs]; exact bytes_append (frameJ_bytes hB) hBt
  have hsl : x.f1.length + 10 ≤ s.length := by rw [hs, List.length_append, hfl]; omega
  have e1 := headLen_starts hBs kc S
  have e2 := headLen_starts (bytes_set hBs p hv) hc' S'
  rw [headLen_set hp2] at e2
  have el : c.length = x.f1.length := by omega
  have hpl : p < s.length := by omega
  have hat : rd s (p : Int) = s[p] := rd_at s p hpl
  rw [hat] at hne
  have hb := S.hb
  have hb' := S'.hb
  have hsm := S.hs
  have hsm' := S'.hs
  rw [el] at hb' hsm'
  rw [List.take_set] at hb'
  by_cases h6 : 6 + x.f1.length ≤ p
  · rw [List.set_eq_of_length_le (by rw [List.length_take]; omega), hb] at hb'
    rw [← hb', ← hsm] at hsm'
    have h1 : ((s.set p v).drop (6 + x.f1.length)).take 4 = ((s.drop (6 + x.f1.length)).take 4).set (p - (6 + x.f1.length)) v := by
      rw [List.drop_set, if_neg (by omega), List.take_set]
    rw [h1] at hsm'
    have h2 : p - (6 + x.f1.length) < ((s.drop (6 + x.f1.length)).take 4).length := by rw [List.length_take, List.length_drop]; omega
    have h3 := congrArg (fun l => l[p - (6 + x.f1.length)]?) hsm'
    simp only [List.getElem?_set_self h2] at h3
    rw [List.getElem?_take, if_pos (by omega), List.getElem?_drop, show 6 + x.f1.length + (p - (6 + x.f1.length)) = p by omega, List.getElem?_eq_getElem hpl] at h3
    exact hne (Option.some.inj h3)
  · have h1 : (s.set p v).drop (6 + x.f1.length) = s.drop (6 + x.f1.length) := by rw [List.drop_set, if_pos (by omega)]
    rw [h1, hsm] at hsm'
    have h2 := congrArg numJ hsm'
    rw [numJ_le4 _ (crcJ_range _).1 (crcJ_range _).2, numJ_le4 _ (crcJ_range _).1 (crcJ_range _).2] at h2
    rw [hb] at hb'
    rw [← hb'] at h2
    have hbl : p < (bodyJ x.f0 x.f1).length := by rw [bodyJ_len]; omega
    have h3 := crc_set (bodyJ_bytes hB) hbl hv h2.symm
    refine hne (h3.trans ?_)
    have h4 : (bodyJ x.f0 x.f1)[p]? = s[p]? := by rw [← hb, List.getElem?_take, if_pos (by omega)]
    rw [List.getElem?_eq_getElem hbl, List.getElem?_eq_getElem hpl] at h4
    exact Option.some.inj h4
/-- where the frames end -/
def endJ (l : List S24) (i : Nat) : Nat := (catJ (l.take i)).length
theorem endJ_zero (l : List S24) : endJ l 0 = 0 := by simp [endJ, catJ]
theorem endJ_all (l : List S24) : endJ l l.length = (catJ l).length := by unfold endJ; rw [List.take_length]
theorem takeS (l : List S24) (i : Nat) (h : i < l.length) : l.take (i + 1) = l.take i ++ [l[i]] := by
  rw [List.take_add_one, List.getElem?_eq_getElem h]; rfl
theorem endJ_succ (l : List S24) (i : Nat) (h : i < l.length) : endJ l (i + 1) = endJ l i + (l[i].f1.length + 10) := by
  unfold endJ; rw [takeS l i h, catJ_snoc, List.length_append]; unfold fr1; rw [frameJ_len]
def endsJ (l : List S24) (i : Nat) : List Int := (List.range i).map fun j => (endJ l (j + 1) : Int)
theorem endsJ_len (l : List S24) (i : Nat) : (endsJ l i).length = i := by unfold endsJ; simp
theorem endsJ_snoc (l : List S24) (i : Nat) : endsJ l i ++ [(endJ l (i + 1) : Int)] = endsJ l (i + 1) := by unfold endsJ; rw [List.range_succ, List.map_append]; rfl
theorem endsJ_at (l : List S24) (n i : Nat) (h : i < n) : rd (endsJ l n) (i : Int) = (endJ l (i + 1) : Int) := by
  simp [rd, endsJ, List.getD_eq_getElem?_getD, h]
theorem bits_turn : ∀ b : Nat, b < 256 → ∀ k : Nat, k < 8 → (b ^^^ 2 ^ k) < 256 ∧ (b ^^^ 2 ^ k) ≠ b := by decide +kernel
/-- a turned bit, but one of a length, ends the reading at its frame -/
theorem turned_read {l : List S24} (hl : Fine l) {at_ i : Nat} (hi : i < l.length) (h0 : endJ l i ≤ at_) (h1 : at_ < endJ l (i + 1)) (h2 : at_ - endJ l i < 2 ∨ 6 ≤ at_ - endJ l i) {v : Int} (hv : 0 ≤ v ∧ v ≤ 255) (hne : v ≠ rd (catJ l) (at_ : Int)) (hlen : (catJ l).length ≤ 100000000) :
    journal_Read.f ((catJ l).set at_ v) = some ((l.take i).map to29, (endJ l i : Int)) := by
  have hs := endJ_succ l i hi
  obtain ⟨x, hx⟩ : ∃ x, x = l[i] := ⟨_, rfl⟩
  rw [← hx] at hs
  have hxm := hl x (by rw [hx]; exact List.getElem_mem hi)
  have hF : Fine (l.take i) := fun y hy => hl y (List.mem_of_mem_take hy)
  have hFd : Fine (l.drop (i + 1)) := fun y hy => hl y (List.mem_of_mem_drop hy)
  have e : catJ l = catJ (l.take i) ++ (fr1 x ++ catJ (l.drop (i + 1))) := by
    conv => lhs; rw [← List.take_append_drop i l, List.drop_eq_getElem_cons hi, ← hx]
    rw [catJ_append, catJ_cons]
  have e2 : (catJ l).set at_ v = catJ (l.take i) ++ (fr1 x ++ catJ (l.drop (i + 1))).set (at_ - endJ l i) v := by
    rw [e, List.set_append_right _ _ (by exact h0)]; rfl
  have e3 : rd (catJ l) (at_ : Int) = rd (fr1 x ++ catJ (l.drop (i + 1))) ((at_ - endJ l i : Nat) : Int) := by
    have h3 := rd_drop (l := catJ l) (endJ l i) (at_ - endJ l i)
    rw [show endJ l i + (at_ - endJ l i) = at_ by omega] at h3
    rw [← h3, e]
    congr 1
    exact List.drop_left
  rw [e3] at hne
  rw [e2]
  have hN := noFrame_turned (x := x) hxm.1 hxm.2 (catJ_bytes hFd) (p := at_ - endJ l i) (by omega) h2 hv hne
  exact read_cat hF (bytes_set (bytes_append (frameJ_bytes hxm.2) (catJ_bytes hFd)) _ hv) hN (by rw [← e2, List.length_set]; exact hlen)
end Go.Proofs.Ytmcdpgopjfpjeaa.S
