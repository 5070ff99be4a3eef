/- What is read of any bytes: frames, one behind the other. -/
import Derived.Test.YtmcdpgopjfpjeaaFr
namespace Go.Proofs.Ytmcdpgopjfpjeaa.S
open Go.RowKit Go.Proofs.YtmcdpgopjfpjeaaW.PrintWords Go.Proofs.YtmcdpgopjfpjeaaW.PrintLast Go.Proofs.YtmcdpgopjfpjeaaW.PrintMore
set_option linter.unusedVariables false
set_option linter.unusedSimpArgs false
/-- a frame, its parts -/
theorem frameJ_parts (k : Int) (c : List Int) (hk : 0 ≤ k ∧ k ≤ 255) (hc : c.length ≤ 100000) : frameJ k c = 165 :: k :: (le4 (c.length : Int) ++ (c ++ le4 (crcJ (bodyJ k c)))) := by
  unfold frameJ
  conv => lhs; arg 1; unfold bodyJ
  rw [show k % 256 = k by omega, show (c.length : Int) % 4294967296 = (c.length : Int) by omega]
  simp [List.append_assoc]
theorem bodyJ_parts (k : Int) (c : List Int) (hk : 0 ≤ k ∧ k ≤ 255) (hc : c.length ≤ 100000) : bodyJ k c = 165 :: k :: (le4 (c.length : Int) ++ c) := by
  unfold bodyJ
  rw [show k % 256 = k by omega, show (c.length : Int) % 4294967296 = (c.length : Int) by omega]
  simp
structure Starts (s : List Int) (k : Int) (c : List Int) : Prop where
  h0 : rd s 0 = 165
  h1 : rd s 1 = k
  hn : (s.drop 2).take 4 = le4 (c.length : Int)
  hc : (s.drop 6).take c.length = c
  hb : s.take (6 + c.length) = bodyJ k c
  hs : (s.drop (6 + c.length)).take 4 = le4 (crcJ (bodyJ k c))
  hl : c.length + 10 ≤ s.length
  ht : s.take (c.length + 10) = frameJ k c
theorem starts_of {s : List Int} {k : Int} {c : List Int} (hk : 0 ≤ k ∧ k ≤ 255) (hc : c.length ≤ 100000) (h : frameJ k c <+: s) : Starts s k c := by
  obtain ⟨t, rfl⟩ := h
  have hp := frameJ_parts k c hk hc
  have hbp := bodyJ_parts k c hk hc
  obtain ⟨q, hq⟩ : ∃ q, q = le4 (crcJ (bodyJ k c)) := ⟨_, rfl⟩
  have hq4 : q.length = 4 := by rw [hq]; rfl
  have hf : frameJ k c ++ t = bodyJ k c ++ (q ++ t) := by unfold frameJ; rw [← hq, List.append_assoc]
  have hbl := bodyJ_len k c
  have hfl := frameJ_len k c
  constructor
  · rw [hp]; rfl
  · rw [hp]; rfl
  · rw [hp]; rfl
  · rw [hp]
    show List.take c.length ((c ++ le4 _) ++ t) = c
    rw [List.append_assoc, List.take_left]
  · rw [hf, show 6 + c.length = (bodyJ k c).length by omega, List.take_left]
  · rw [hf, show 6 + c.length = (bodyJ k c).length by omega, List.drop_left, show 4 = q.length by omega, List.take_left, hq]
  · rw [List.length_append, hfl]; omega
  · rw [show c.length + 10 = (frameJ k c).length by omega, List.take_left]
theorem starts_prefix {s : List Int} {k : Int} {c : List Int} (h : s.take (c.length + 10) = frameJ k c) : frameJ k c <+: s := by rw [← h]; exact List.take_prefix _ _
theorem head_drop {l : List Int} (a : Nat) : headJ l a = (l.drop a).take 6 := rfl
theorem rd_take {l : List Int} (n i : Nat) (h : i < n) : rd (l.take n) (i : Int) = rd l (i : Int) := by
  simp only [rd, List.getD_eq_getElem?_getD, Int.toNat_natCast]
  rw [List.getElem?_take]; simp [h]
theorem rd_drop {l : List Int} (n i : Nat) : rd (l.drop n) (i : Int) = rd l ((n + i : Nat) : Int) := by
  simp only [rd, List.getD_eq_getElem?_getD, Int.toNat_natCast, List.getElem?_drop]
/-- what begins with a frame is read as it -/
theorem rOneJ_of {l : List Int} {a : Nat} {k : Int} {c : List Int} (hB : Args.Bytes l) (ha : a ≤ l.length) (hk : 0 ≤ k ∧ k ≤ 255) (hc : c.length ≤ 100000) (h : frameJ k c <+: l.drop a) : rOneJ l a = some (⟨k, c⟩, a + c.length + 10) := by
  have S := starts_of hk hc h
  obtain ⟨s, hs⟩ : ∃ s, s = l.drop a := ⟨_, rfl⟩
  rw [← hs] at S
  have hsl : s.length = l.length - a := by rw [hs, List.length_drop]
  have hhead : headJ l a = s.take 6 := by rw [head_drop, hs]
  have hlen : lenJ l a = (c.length : Int) := by
    unfold lenJ
    rw [hhead, show (s.take 6).drop 2 = (s.drop 2).take 4 by rw [List.drop_take], S.hn, numJ_le4 _ (by omega) (by omega)]
  have hsize : sizeJ l a = 6 + c.length := by unfold sizeJ; rw [hlen]; rfl
  have hd : ∀ n, l.drop (a + n) = s.drop n := fun n => by rw [hs, List.drop_drop]
  have h0 : rd (s.take 6) 0 = 165 := by have := rd_take (l := s) 6 0 (by omega); rw [show ((0 : Nat) : Int) = 0 from rfl] at this; rw [this, S.h0]
  have h1 : rd (s.take 6) 1 = k := by have := rd_take (l := s) 6 1 (by omega); rw [show ((1 : Nat) : Int) = 1 from rfl] at this; rw [this, S.h1]
  have hlL := S.hl
  unfold rOneJ
  rw [if_pos (by omega), if_pos (by unfold goodHead; rw [hlen, hhead, h0]; simp; omega), hsize, if_pos (by omega), if_pos ?_, hlen, hhead, h1, hd, Int.toNat_natCast, S.hc, wrap64_in' (by omega) (by omega)]
  · congr 2; omega
  · unfold goodSum
    rw [hsize, hd, hd, S.hs, List.drop_zero, S.hb, numJ_le4 _ (crcJ_range _).1 (crcJ_range _).2]
    exact beq_self_eq_true _
/-- what is read begins with its frame -/
theorem rOneJ_some {l : List Int} {a : Nat} {x : S29} {a' : Nat} (hB : Args.Bytes l) (h : rOneJ l a = some (x, a')) : (0 ≤ x.f0 ∧ x.f0 ≤ 255) ∧ x.f1.length ≤ 100000 ∧ frameJ x.f0 x.f1 <+: l.drop a ∧ a' = a + x.f1.length + 10 ∧ a' ≤ l.length := by
  obtain ⟨s, hs⟩ : ∃ s, s = l.drop a := ⟨_, rfl⟩
  have hd : ∀ n, l.drop (a + n) = s.drop n := fun n => by rw [hs, List.drop_drop]
  have hhead : headJ l a = s.take 6 := by rw [head_drop, hs]
  have hBs : Args.Bytes s := by rw [hs]; exact bytes_drop hB a
  unfold rOneJ at h
  split at h
  · rename_i g1
    split at h
    · rename_i g2
      split at h
      · rename_i g3
        split at h
        · rename_i g4
          have e := Option.some.inj h
          simp only [Prod.mk.injEq] at e
          obtain ⟨e1, e2⟩ := e
          have hsl : s.length = l.length - a := by rw [hs, List.length_drop]
          have hr := numJ_range ((headJ l a).drop 2)
          obtain ⟨N, hN⟩ := Int.eq_ofNat_of_zero_le hr.1
          have hlen : lenJ l a = (N : Int) := hN
          have hsize : sizeJ l a = 6 + N := by unfold sizeJ; rw [hlen]; rfl
          unfold goodHead at g2
          rw [hlen, hhead] at g2
          simp only [Bool.and_eq_true, beq_iff_eq, decide_eq_true_eq] at g2
          unfold goodSum at g4
          rw [hsize, hd, hd, List.drop_zero] at g4
          have g4' := beq_iff_eq.1 g4
          rw [hsize] at g3 e2
          rw [hlen, hhead, hd, Int.toNat_natCast] at e1
          have hb1 := bytes_rd (bytes_take hBs 6) 1
          rw [wrap64_in' (by omega) (by omega)] at e1
          obtain ⟨c, hc⟩ : ∃ c, c = (s.drop 6).take N := ⟨_, rfl⟩
          have hcl : c.length = N := by rw [hc, List.length_take, List.length_drop]; omega
          rw [← hc] at e1
          have hx0 : x.f0 = rd (s.take 6) 1 := by rw [← e1]
          have hx1 : x.f1 = c := by rw [← e1]
          rw [hx1, hcl, hx0]
          have h4 : ((s.take 6).drop 2).length = 4 := by simp; omega
          have hn4 : (s.take 6).drop 2 = le4 (N : Int) := by
            have h5 : numJ ((s.take 6).drop 2) = (N : Int) := by rw [← hhead]; exact hN
            rw [← h5, le4_numJ (bytes_drop (bytes_take hBs 6) 2) h4]
          have hhd : s.take 6 = 165 :: rd (s.take 6) 1 :: le4 (N : Int) := by
            rw [← hn4]
            have h6 : (s.take 6).length = 6 := by simp; omega
            have g20 := g2.1
            revert h6 g20
            generalize s.take 6 = u
            intro h6 g20
            match u, h6, g20 with
            | [u0, u1, u2, u3, u4, u5], _, g20 => simp only [rd] at g20 ⊢; simp at g20; rw [g20]; rfl
          have hbody : s.take (6 + N) = bodyJ (rd (s.take 6) 1) c := by
            rw [bodyJ_parts _ _ hb1 (by omega), hcl, List.take_add, ← hc]
            conv => lhs; rw [hhd]
            simp
          have hl4 : ((s.drop (6 + N)).take 4).length = 4 := by simp; omega
          have hq : (s.drop (6 + N)).take 4 = le4 (crcJ (bodyJ (rd (s.take 6) 1) c)) := by
            rw [← hbody]
            exact (numJ_eq (bytes_take (bytes_drop hBs _) 4) hl4 _ (crcJ_range _).1 (crcJ_range _).2).1 g4'
          refine ⟨hb1, by omega, ?_, by omega, by omega⟩
          rw [← hs]
          refine ⟨s.drop (6 + N + 4), ?_⟩
          unfold frameJ
          rw [← hq, ← hbody, List.append_assoc, show s.drop (6 + N + 4) = (s.drop (6 + N)).drop 4 from (List.drop_drop ..).symm, List.take_append_drop, List.take_append_drop]
        · cases h
      · cases h
    · cases h
  · cases h
end Go.Proofs.Ytmcdpgopjfpjeaa.S
