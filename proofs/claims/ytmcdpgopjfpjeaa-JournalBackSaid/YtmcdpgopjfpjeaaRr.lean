/- The document's reader reads what the program's reads. -/
import Derived.Test.YtmcdpgopjfpjeaaRd
import Derived.Test.YtmcdpgopjfpjeaaS5
namespace Go.Proofs.Ytmcdpgopjfpjeaa.S
open Go.RowKit Go.Proofs.YtmcdpgopjfpjeaaW.PrintWords Go.Proofs.YtmcdpgopjfpjeaaW.PrintLast Go.Proofs.YtmcdpgopjfpjeaaW.PrintMore
set_option linter.unusedVariables false
set_option linter.unusedSimpArgs false
theorem wnum (a b c d : Int) (ha : 0 ≤ a ∧ a ≤ 255) (hb : 0 ≤ b ∧ b ≤ 255) (hc : 0 ≤ c ∧ c ≤ 255) (hd : 0 ≤ d ∧ d ≤ 255) : wrap64 ((wrap64 ((wrap64 ((wrap64 a) + (wrap64 ((wrap64 b) * 256)))) + (wrap64 ((wrap64 c) * 65536)))) + (wrap64 ((wrap64 d) * 16777216))) = num4 a b c d := by
  rw [wrap64_in' (n := a) (by omega) (by omega), wrap64_in' (n := b) (by omega) (by omega), wrap64_in' (n := c) (by omega) (by omega), wrap64_in' (n := d) (by omega) (by omega),
    wrap64_in' (n := b * 256) (by omega) (by omega), wrap64_in' (n := c * 65536) (by omega) (by omega), wrap64_in' (n := d * 16777216) (by omega) (by omega),
    wrap64_in' (n := a + b * 256) (by omega) (by omega), wrap64_in' (n := a + b * 256 + c * 65536) (by omega) (by omega), wrap64_in' (n := a + b * 256 + c * 65536 + d * 16777216) (by omega) (by omega)]
  unfold num4; omega
/-- the length that stands in the head -/
def headLen (s : List Int) : Int := num4 (rd s 2) (rd s 3) (rd s 4) (rd s 5)
theorem headLen_ge {s : List Int} (hB : Args.Bytes s) : 0 ≤ headLen s ∧ headLen s < 4294967296 := by
  have h2 := bytes_rd hB 2; have h3 := bytes_rd hB 3; have h4 := bytes_rd hB 4; have h5 := bytes_rd hB 5
  unfold headLen num4; omega
theorem headLen_starts {s : List Int} {k : Int} {c : List Int} (hB : Args.Bytes s) (hc : c.length ≤ 100000) (h : Starts s k c) : headLen s = (c.length : Int) := by
  have e := congrArg numJ h.hn
  rw [numJ_le4 _ (by omega) (by omega), numJ_bytes (bytes_take (bytes_drop hB 2) 4)] at e
  have q : ∀ i : Nat, i < 4 → rd ((s.drop 2).take 4) (i : Int) = rd s ((2 + i : Nat) : Int) := fun i hi => by rw [rd_take 4 i hi, rd_drop]
  have q0 := q 0 (by omega); have q1 := q 1 (by omega); have q2 := q 2 (by omega); have q3 := q 3 (by omega)
  simp only [Nat.reduceAdd] at q0 q1 q2 q3
  unfold headLen
  rw [← e]
  exact (congr (congr (congr (congrArg num4 q0) q1) q2) q3).symm
theorem rone_none {l : List Int} {a : Nat} (hB : Args.Bytes l) (h : ∀ k c, (0 ≤ k ∧ k ≤ 255) → c.length ≤ 100000 → Starts (l.drop a) k c → False) : rOneJ l a = none := by
  cases e : rOneJ l a with
  | none => rfl
  | some p =>
    obtain ⟨x, a'⟩ := p
    obtain ⟨h0, h1, h2, _⟩ := rOneJ_some hB e
    exact (h _ _ h0 h1 (starts_of h0 h1 h2)).elim
theorem rread_loop (l : List Int) (hB : Args.Bytes l) (hl : l.length ≤ 100000000) : ∀ (m a : Nat) (acc rs : List S29) (e : Nat) (k : Nat), readsJ m l a acc = some (rs, e) → a ≤ l.length → acc.length ≤ a → 12 * l.length + 300 < k + 2 * a →
    noonmarkref29_Read.l0 k l (acc.map to24) (a : Int) = some (rs.map to24, (e : Int)) := by
  intro m
  induction m with
  | zero => intro a acc rs e k h; cases h
  | succ m ih =>
    intro a acc rs e k h ha hacc hk
    obtain ⟨k, rfl⟩ : ∃ m, k = m + 2 := ⟨k - 2, by omega⟩
    unfold readsJ at h
    obtain ⟨s, hs⟩ : ∃ s, s = l.drop a := ⟨_, rfl⟩
    have hsl : s.length = l.length - a := by rw [hs, List.length_drop]
    have hBs : Args.Bytes s := by rw [hs]; exact bytes_drop hB a
    have hstop : rOneJ l a = none → (acc, a) = (rs, e) := fun e1 => by rw [e1] at h; exact Option.some.inj h
    have hn : ∀ (p : Prop), p → (p → rOneJ l a = none) → (some (acc.map to24, (a : Int)) : Option (List S24 × Int)) = some (rs.map to24, (e : Int)) := fun p hp hq => by have := hstop (hq hp); cases this; rfl
    conv => lhs; unfold noonmarkref29_Read.l0
    rw [wrap64_in' (n := (l.length : Int) - (a : Int)) (by omega) (by omega)]
    by_cases h10 : (l.length : Int) - (a : Int) ≥ 10
    · rw [if_pos h10, if_pos (by omega), if_pos (by omega), Option.bind_some, Int.toNat_natCast, ← hs, if_pos (by omega), if_pos (by omega), if_pos (by omega), if_pos (by omega), wnum _ _ _ _ (bytes_rd hBs 2) (bytes_rd hBs 3) (bytes_rd hBs 4) (bytes_rd hBs 5)]
      rw [show num4 (rd s 2) (rd s 3) (rd s 4) (rd s 5) = headLen s from rfl]
      have hh := headLen_ge hBs
      have stopj : ∀ y : List Int × Int, noonmarkref29_Read.j1 (k + 1) l (acc.map to24) (a : Int) y.1 y.2 true = some (acc.map to24, (a : Int)) := fun y => by
        conv => lhs; unfold noonmarkref29_Read.j1
        rw [if_pos rfl]
      by_cases hbig : headLen s > 100000
      · rw [if_pos hbig, stopj (s, headLen s)]
        refine hn _ hbig fun _ => rone_none hB fun k' c' hk' hc' S => ?_
        rw [← hs] at S
        have := headLen_starts hBs hc' S
        omega
      · rw [if_neg hbig, wrap64_in' (n := headLen s + 10) (by omega) (by omega)]
        by_cases hsh : (s.length : Int) < headLen s + 10
        · rw [decide_eq_true hsh, stopj (s, headLen s)]
          refine hn _ hsh fun _ => rone_none hB fun k' c' hk' hc' S => ?_
          rw [← hs] at S
          have := headLen_starts hBs hc' S
          have := S.hl
          omega
        · rw [decide_eq_false hsh]
          obtain ⟨n, hnn⟩ := Int.eq_ofNat_of_zero_le hh.1
          have hb1 := bytes_rd hBs 1
          conv => lhs; unfold noonmarkref29_Read.j1
          rw [hnn] at hbig hsh ⊢
          rw [if_neg (by decide), if_pos (by omega), wrap64_in' (n := 6 + (n : Int)) (by omega) (by omega), if_pos (by omega), if_pos (by omega), Option.bind_some, wrap64_in' (n := rd s 1) (by omega) (by omega), wrap64_in' (n := (n : Int) + 10) (by omega) (by omega)]
          obtain ⟨c, hc⟩ : ∃ c, c = (s.take (6 + (n : Int)).toNat).drop 6 := ⟨_, rfl⟩
          rw [show (6 + (n : Int)).toNat = 6 + n by omega] at hc ⊢
          rw [← hc]
          have hcd : c = (s.drop 6).take n := by rw [hc, List.drop_take]; congr 1; omega
          have hcl : c.length = n := by rw [hcd, List.length_take, List.length_drop]; omega
          have hok : okJ (rd s 1) c = true := okJ_spec.2 ⟨hb1.1, hb1.2, by omega⟩
          have hBc : Args.Bytes c := by rw [hcd]; exact bytes_take (bytes_drop hBs 6) n
          rw [rframe_ev _ c hBc k (by omega), Option.bind_some]
          unfold framedJ
          rw [if_pos hok]
          simp only
          rw [if_pos trivial, if_pos (by omega), if_pos (by omega), same01_ev _ _ (by rw [frameJ_len]; omega) k (by rw [frameJ_len]; omega), Option.bind_some, show ((n : Int) + 10).toNat = c.length + 10 by omega]
          by_cases hq : frameJ (rd s 1) c = s.take (c.length + 10)
          · rw [decide_eq_true hq, if_pos rfl, if_pos (by rw [List.length_map]; omega)]
            have h1 := rOneJ_of hB ha hb1 (by omega : c.length ≤ 100000) (by rw [← hs]; exact starts_prefix hq.symm)
            rw [h1] at h
            have h2 := ih (a + c.length + 10) (acc ++ [⟨rd s 1, c⟩]) rs e k h (by omega) (by rw [List.length_append, List.length_singleton]; omega) (by omega)
            rw [List.map_append] at h2
            rw [wrap64_in' (n := (a : Int) + (n : Int)) (by omega) (by omega), wrap64_in' (n := (a : Int) + (n : Int) + 10) (by omega) (by omega), show (a : Int) + (n : Int) + 10 = ((a + c.length + 10 : Nat) : Int) by omega]
            exact h2
          · rw [decide_eq_false hq, if_neg (by decide)]
            refine hn _ hq fun hq => rone_none hB fun k' c' hk' hc' S => hq ?_
            rw [← hs] at S
            have e1 := headLen_starts hBs hc' S
            have e2 : c' = c := by rw [← S.hc, hcd]; congr 1; omega
            rw [S.h1, ← e2]
            exact S.ht.symm
    · rw [if_neg h10]
      refine hn _ h10 fun _ => rone_none hB fun k' c' hk' hc' S => ?_
      have := S.hl
      rw [List.length_drop] at this
      omega
theorem readsJ_some (l : List Int) : ∀ (m a : Nat) (acc : List S29), l.length + 1 ≤ m + a → a ≤ l.length → ∃ rs e, readsJ m l a acc = some (rs, e) ∧ e ≤ l.length ∧ rs.length ≤ acc.length + (l.length - a) := by
  intro m
  induction m with
  | zero => intro a acc hm ha; omega
  | succ m ih =>
    intro a acc hm ha
    unfold readsJ
    cases e : rOneJ l a with
    | none => exact ⟨_, _, rfl, ha, by omega⟩
    | some p =>
      obtain ⟨x, a'⟩ := p
      have hadv := rOneJ_adv e
      obtain ⟨rs, e', h1, h2, h3⟩ := ih a' (acc ++ [x]) (by omega) hadv.2
      exact ⟨rs, e', h1, h2, by rw [List.length_append, List.length_singleton] at h3; omega⟩
/-- what both readers read -/
theorem reads_ev (l : List Int) (hB : Args.Bytes l) (hl : l.length ≤ 100000000) : ∃ (rs : List S29) (e : Nat), journal_Read.f l = some (rs, (e : Int)) ∧ (∀ k, 12 * l.length + 300 < k → noonmarkref29_Read.f k l = some (rs.map to24, (e : Int))) ∧ e ≤ l.length ∧ rs.length ≤ l.length ∧ readsJ (l.length + 1) l 0 [] = some (rs, e) := by
  obtain ⟨rs, e, h1, h2, h3⟩ := readsJ_some l (l.length + 1) 0 [] (by omega) (by omega)
  refine ⟨rs, e, ?_, fun k hk => ?_, h2, by simpa using h3, h1⟩
  · unfold journal_Read.f
    rw [if_pos hl, h1]
  · exact rread_loop l hB hl _ 0 [] rs e k h1 (by omega) (by simp) (by omega)
end Go.Proofs.Ytmcdpgopjfpjeaa.S
