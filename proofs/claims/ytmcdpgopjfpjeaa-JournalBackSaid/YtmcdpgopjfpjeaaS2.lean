-- Written by a program of this session for this claim (it follows the print's forms). Not trusted: Lean checks it.
import Derived.Test.YtmcdpgopjfpjeaaS0
import Derived.Test.YtmcdpgopjfpjeaaS1
namespace Go.Proofs.Ytmcdpgopjfpjeaa.S
open Go.RowKit Go.Proofs.YtmcdpgopjfpjeaaW.PrintWords Go.Proofs.YtmcdpgopjfpjeaaW.PrintLast Go.Proofs.YtmcdpgopjfpjeaaW.PrintMore
attribute [local go_sem] max2_int min2_int max_two min_two max_three min_three max_four min_four   -- for this text's walks alone
set_option linter.unusedVariables false
set_option linter.unusedSimpArgs false

/-! ### journal_Read: function 13 -/
theorem gb_refl (w : World) (r : Option Nat) : w.grownBy w r := ⟨rfl, rfl, rfl, Nat.le_refl _, fun _ _ _ => rfl⟩
theorem gb_drewN {w w' : World} {r : Option Nat} (h : w.grownBy w' r) (n : Nat) : w.grownBy (w'.drewN n) r := ⟨h.os, h.tape, h.output, h.size, h.block⟩
/-- what r.must panics with -/
def kindJ (k : Int) : List PanicEntry := [{ v := .iface 26 (.int .i64 k), recovered := false }]
set_option maxHeartbeats 1000000 in
set_option maxRecDepth 100000 in
theorem must_no (w : World) (p : Option Addr) : Calls Try.prog 43 #[.pointer p, .bool false] w fun e w' => (∃ m, w' = w.drewN m) ∧ e = .panicked (kindJ 3) := by
  go_enter Try.func43, Try.ntmps43
  go_wp2_with fail
  exact ⟨rfl, ⟨0, rfl⟩, rfl⟩
set_option maxHeartbeats 1000000 in
set_option maxRecDepth 100000 in
theorem must_yes (w : World) (p : Option Addr) : Calls Try.prog 43 #[.pointer p, .bool true] w fun e w' => (∃ m, w' = w.drewN m) ∧ e = .returned (.tuple #[]) := by
  go_enter Try.func43, Try.ntmps43
  go_wp2
  exact bodyPost_end (v := .tuple #[]) (by simp [results, Try.results43, go_sem]) rfl ⟨⟨0, rfl⟩, rfl⟩
/-- the reader at block g -/
def Rj (w : World) (g : Nat) (A : Option Addr) (n c : Nat) (at_ : Int) : Prop := w.heap[g]? = some (.cells #[.slice A n c, .int .i64 at_] 69 (0, 0))
set_option maxHeartbeats 1000000 in
set_option maxRecDepth 100000 in
theorem take_no (w : World) (g : Nat) (A : Option Addr) (c : Nat) (at_ : Int) (l : List Int) (h : Rj w g A l.length c at_) (hl : l.length ≤ 100000000) (h0 : 0 ≤ at_) (h1 : at_ ≤ l.length) (fr n : Int) (f0 : 0 ≤ fr) (f1 : fr ≤ 100000000)
    (hn : n > (l.length : Int) - at_ - fr) :
    Calls Try.prog 41 #[.pointer (some ⟨g, 0, none⟩), .int .i64 fr, .int .i64 n] w fun e w' => (∃ m, w' = w.drewN m) ∧ e = .panicked (kindJ 3) := by
  have hb : w.heap[g]? = some (.cells #[.slice A l.length c, .int .i64 at_] 69 (0, 0)) := h
  have c0 : w.cell? ⟨g, 0, none⟩ = some (.slice A l.length c) := (blk_cell hb 0).trans rfl
  have c1 : w.cell? ⟨g, 1, none⟩ = some (.int .i64 at_) := (blk_cell hb 1).trans rfl
  have e1 : wrap64 ((l.length : Int) - at_) = (l.length : Int) - at_ := IntWalk.wrap64_in _ (by omega)
  have e2 : wrap64 ((l.length : Int) - at_ - fr) = (l.length : Int) - at_ - fr := IntWalk.wrap64_in _ (by omega)
  have e3 : decide ((l.length : Int) - at_ - fr < n) = true := decide_eq_true (by omega)
  clear h hb
  go_enter Try.func41, Try.ntmps41
  go_wp2_with fail
  go_quiet (fail)
  go_wp2_with fail
  exact ⟨rfl, ⟨_, rfl⟩, rfl⟩
set_option maxHeartbeats 1000000 in
set_option maxRecDepth 100000 in
theorem take_yes (w : World) (g : Nat) (A : Option Addr) (c : Nat) (at_ : Int) (l : List Int) (h : Rj w g A l.length c at_) (hr : Kd.C (Kd.int .u8) w A l.length l) (hc : l.length ≤ c) (hl : l.length ≤ 100000000) (h0 : 0 ≤ at_) (h1 : at_ ≤ l.length) (fr n : Int) (f0 : 0 ≤ fr) (f1 : fr ≤ 100000000)
    (n0 : 0 ≤ n) (hn : n ≤ (l.length : Int) - at_ - fr) :
    Calls Try.prog 41 #[.pointer (some ⟨g, 0, none⟩), .int .i64 fr, .int .i64 n] w fun e w' => (∃ m, w' = w.drewN m) ∧ ∃ A' : Option Addr, e = .returned (.slice A' ((l.take (at_ + fr + n).toNat).drop (at_ + fr).toNat).length (c - (at_ + fr).toNat)) ∧
      (∀ W : World, Kd.C (Kd.int .u8) W A l.length l → Kd.C (Kd.int .u8) W A' ((l.take (at_ + fr + n).toNat).drop (at_ + fr).toNat).length ((l.take (at_ + fr + n).toNat).drop (at_ + fr).toNat)) ∧ ((l.take (at_ + fr + n).toNat).drop (at_ + fr).toNat).length ≤ c - (at_ + fr).toNat := by
  have hb : w.heap[g]? = some (.cells #[.slice A l.length c, .int .i64 at_] 69 (0, 0)) := h
  have c0 : w.cell? ⟨g, 0, none⟩ = some (.slice A l.length c) := (blk_cell hb 0).trans rfl
  have c1 : w.cell? ⟨g, 1, none⟩ = some (.int .i64 at_) := (blk_cell hb 1).trans rfl
  have e1 : wrap64 ((l.length : Int) - at_) = (l.length : Int) - at_ := IntWalk.wrap64_in _ (by omega)
  have e2 : wrap64 ((l.length : Int) - at_ - fr) = (l.length : Int) - at_ - fr := IntWalk.wrap64_in _ (by omega)
  have e3 : decide ((l.length : Int) - at_ - fr < n) = false := decide_eq_false (by omega)
  have e4 : wrap64 (at_ + fr) = at_ + fr := IntWalk.wrap64_in _ (by omega)
  have e5 : wrap64 (at_ + fr + n) = at_ + fr + n := IntWalk.wrap64_in _ (by omega)
  obtain ⟨i0, hi0, _, hsz, _⟩ := info_parts info5
  obtain ⟨A', hcut, hA, hC⟩ := print_mid_of (P := Try.prog) (Value.int .u8) 0 22 5 .i64 .i64 Try.underlying22 hi0 hsz A c l (at_ + fr) (at_ + fr + n) (by omega) (by omega) (by omega) hc
  have HC := Aside0.mk hC
  have HK := Aside0.mk (fun (W : World) (hW : Kd.C (Kd.int .u8) W A l.length l) => Kd.C_of_reads (h1 := fun _ => rfl) (hA W (Kd.reads_of_C hW)))
  clear h hb hi0 hsz hA hC hr
  go_enter Try.func41, Try.ntmps41
  go_wp2_with fail
  go_quiet (fail)
  go_wp2_with fail
  go_quiet (fail)
  go_wp2
  go_ret
  exact ⟨⟨_, World.drewN_drewN _ _ _⟩, A', by first | rfl | (simp; done) | (simp [*]; done), HK.out, HC.out⟩
theorem gb_set {w w' : World} {g : Nat} (h : w.grownBy w' (some g)) (j : Nat) (u : Value) : w.grownBy (w'.setCell ⟨g, j, none⟩ u) (some g) := by
  refine ⟨h.os, h.tape, h.output, by simpa using h.size, fun k hk hne => ?_⟩
  rw [Below.heap_setCell w' ⟨g, j, none⟩ u k (fun e => hne (by rw [e]))]
  exact h.block k hk hne
theorem gb_trans {w w1 w2 : World} {r : Option Nat} (h : w.grownBy w1 r) (k : w1.grownBy w2 r) : w.grownBy w2 r :=
  ⟨k.os.trans h.os, k.tape.trans h.tape, k.output.trans h.output, Nat.le_trans h.size k.size, fun i hi hne => (k.block i (Nat.lt_of_lt_of_le hi h.size) hne).trans (h.block i hi hne)⟩
theorem gb_below {w w1 w2 : World} {r : Option Nat} (h : w.grownBy w1 r) (k : Below w1.heap.size w1 w2) : w.grownBy w2 r := gb_trans h (grown_of_below k r)
theorem gb_new {w w1 : World} {r : Option Nat} (h : w.grownBy w1 r) (i j : Nat) (hi : w.heap.size ≤ i) (u : Value) : w.grownBy (w1.setCell ⟨i, j, none⟩ u) r := by
  refine ⟨h.os, h.tape, h.output, by simpa using h.size, fun k hk hne => ?_⟩
  rw [Below.heap_setCell w1 ⟨i, j, none⟩ u k (fun e => by have e' : k = i := e; omega)]
  exact h.block k hk hne
theorem gb_alloc {w w1 : World} {r : Option Nat} (h : w.grownBy w1 r) (o : Obj) : w.grownBy (w1.alloc o) r := gb_trans h (World.grownBy_alloc w1 o r)
theorem take_eq (l : List Int) (a f n : Nat) : (l.take ((a : Int) + (f : Int) + (n : Int)).toNat).drop ((a : Int) + (f : Int)).toNat = (l.drop (a + f)).take n := by
  have e1 : ((a : Int) + (f : Int) + (n : Int)).toNat = a + f + n := by omega
  have e2 : ((a : Int) + (f : Int)).toNat = a + f := by omega
  rw [e1, e2, List.take_drop]
/-- take: the bytes are there -/
theorem take_okW (w : World) (g : Nat) (A : Option Addr) (c a fr n : Nat) (l s : List Int) (h : Rj w g A l.length c a) (hr : Kd.C (Kd.int .u8) w A l.length l) (hc : l.length ≤ c) (hl : l.length ≤ 100000000) (hs : s = (l.drop (a + fr)).take n) (hn : a + fr + n ≤ l.length) :
    Calls Try.prog 41 #[.pointer (some ⟨g, 0, none⟩), .int .i64 fr, .int .i64 n] w fun e w' => (∃ m, w' = w.drewN m) ∧ ∃ (A' : Option Addr) (c' : Nat), e = .returned (.slice A' s.length c') ∧ (∀ W : World, Kd.C (Kd.int .u8) W A l.length l → Kd.C (Kd.int .u8) W A' s.length s) ∧ s.length ≤ c' := by
  refine (take_yes w g A c a l h hr hc hl (by omega) (by omega) fr n (by omega) (by omega) (by omega) (by omega)).mono ?_
  rintro e w' ⟨hm, A', he, h1, h2⟩
  rw [take_eq, ← hs] at he h1 h2
  exact ⟨hm, A', _, he, h1, h2⟩
theorem take_ok (w : World) (g : Nat) (A : Option Addr) (c a fr n : Nat) (l s : List Int) (h : Rj w g A l.length c a) (hr : Kd.C (Kd.int .u8) w A l.length l) (hc : l.length ≤ c) (hl : l.length ≤ 100000000) (hs : s = (l.drop (a + fr)).take n) (hn : a + fr + n ≤ l.length) :
    Calls Try.prog 41 #[.pointer (some ⟨g, 0, none⟩), .int .i64 fr, .int .i64 n] w fun e w' => (∃ m, w' = w.drewN m) ∧ ∃ (A' : Option Addr) (c' : Nat), e = .returned (.slice A' s.length c') ∧ Kd.C (Kd.int .u8) w A' s.length s ∧ s.length ≤ c' := by
  refine (take_okW w g A c a fr n l s h hr hc hl hs hn).mono ?_
  rintro e w' ⟨hm, A', c', he, h1, h2⟩
  exact ⟨hm, A', c', he, h1 w hr, h2⟩
/-- take: they are not -/
theorem take_bad (w : World) (g : Nat) (A : Option Addr) (c a fr n : Nat) (l : List Int) (h : Rj w g A l.length c a) (hl : l.length ≤ 100000000) (ha : a ≤ l.length) (hf : fr ≤ 100000000) (hn : ¬ a + fr + n ≤ l.length) :
    Calls Try.prog 41 #[.pointer (some ⟨g, 0, none⟩), .int .i64 fr, .int .i64 n] w fun e w' => (∃ m, w' = w.drewN m) ∧ e = .panicked (kindJ 3) :=
  take_no w g A c a l h hl (by omega) (by omega) fr n (by omega) (by omega) (by omega)
def orSh (x y s : Int) : Int := Go.bits .or .u32 x (shl .u32 (y % 4294967296) s)
/-- the number of four bytes -/
def numJ (l : List Int) : Int := orSh (orSh (orSh (orSh 0 (rd l 0) 0) (rd l 1) 8) (rd l 2) 16) (rd l 3) 24
theorem wrap64_in' {n : Int} (h0 : -9223372036854775808 ≤ n) (h1 : n ≤ 9223372036854775807) : wrap64 n = n := IntWalk.wrap64_in n ⟨h0, h1⟩
theorem number_step (k : Nat) (x : Int) (s : List Int) (i : Nat) (hs : s.length = 4) (hi : i < 4) : journal_number.l0 (k + 1) x s ((4 : Nat) : Int) (i : Int) = journal_number.l0 k (orSh x (rd s (i : Int)) (8 * (i : Int))) s ((4 : Nat) : Int) ((i + 1 : Nat) : Int) := by
  have e1 : wrap64 (8 * (i : Int)) = 8 * (i : Int) := wrap64_in' (by omega) (by omega)
  have e2 : wrap64 ((i : Int) + 1) = ((i + 1 : Nat) : Int) := (wrap64_in' (by omega) (by omega)).trans (by omega)
  conv => lhs; unfold journal_number.l0
  rw [e1, e2, if_pos (by omega), if_pos (by omega), if_pos (by omega), if_pos (by omega)]
  rfl
theorem number_end (k : Nat) (x : Int) (s : List Int) : journal_number.l0 (k + 1) x s ((4 : Nat) : Int) ((4 : Nat) : Int) = some x := by
  conv => lhs; unfold journal_number.l0
  rw [if_neg (by omega)]
theorem number_ev (l : List Int) (h : 4 ≤ l.length) : journal_number.f 5 l = some (numJ l) := by
  have h4 : (l.take 4).length = 4 := by rw [List.length_take]; omega
  have hr : ∀ i : Nat, i < 4 → rd (l.take 4) (i : Int) = rd l i := by
    intro i hi
    simp only [rd, List.getD_eq_getElem?_getD, Int.toNat_natCast]
    rw [List.getElem?_take]; simp [hi]
  unfold journal_number.f
  rw [if_pos (by omega), h4]
  have e0 : (0 : Int) = ((0 : Nat) : Int) := rfl
  conv => lhs; arg 5; rw [e0]
  rw [number_step _ _ _ 0 h4 (by omega), number_step _ _ _ 1 h4 (by omega), number_step _ _ _ 2 h4 (by omega), number_step _ _ _ 3 h4 (by omega), number_end, hr 0 (by omega), hr 1 (by omega), hr 2 (by omega), hr 3 (by omega)]
  rfl
def stepH (x : Int) : Int := Go.bits .xor .u32 (x / 2) (Go.bits .and .u32 3988292384 ((-(Go.bits .and .u32 x 1)) % 4294967296))
def halfJ (x : Int) : Int := stepH (stepH (stepH (stepH x)))
def nibJ (n : Int) : Int := Go.bits .xor .u32 (n / 16) (halfJ (Go.bits .and .u32 n 15))
def byteJ (n c : Int) : Int := nibJ (nibJ (Go.bits .xor .u32 n (c % 4294967296)))
/-- the program's sum -/
def crcJ (l : List Int) : Int := Go.bits .xor .u32 4294967295 (l.foldl byteJ 4294967295)
theorem half_step (k : Nat) (x : Int) (i : Nat) (hi : i < 4) : journal_half.l0 (k + 1) x (i : Int) = journal_half.l0 k (stepH x) ((i + 1 : Nat) : Int) := by
  have e2 : wrap64 ((i : Int) + 1) = ((i + 1 : Nat) : Int) := (wrap64_in' (by omega) (by omega)).trans (by omega)
  conv => lhs; unfold journal_half.l0
  rw [e2, if_pos (by omega)]
  rfl
theorem half_ev (k : Nat) (x : Int) : journal_half.f (k + 5) x = some (halfJ x) := by
  unfold journal_half.f
  have e0 : (0 : Int) = ((0 : Nat) : Int) := rfl
  conv => lhs; arg 3; rw [e0]
  rw [half_step _ _ 0 (by omega), half_step _ _ 1 (by omega), half_step _ _ 2 (by omega), half_step _ _ 3 (by omega)]
  conv => lhs; unfold journal_half.l0
  rw [if_neg (by omega)]
  rfl
theorem sum_nib (k : Nat) (x : Int) (l : List Int) (n i : Int) (j : Nat) (hj : j < 2) : journal_Sum.l1 (k + 6) x l n i (j : Int) = journal_Sum.l1 (k + 5) (nibJ x) l n i ((j + 1 : Nat) : Int) := by
  have e2 : wrap64 ((j : Int) + 1) = ((j + 1 : Nat) : Int) := (wrap64_in' (by omega) (by omega)).trans (by omega)
  conv => lhs; unfold journal_Sum.l1
  rw [e2, if_pos (by omega), half_ev, Option.bind_some]
  rfl
theorem sum_byte (k : Nat) (x : Int) (l : List Int) (i : Nat) (hi : i < l.length) (hl : l.length ≤ 9223372036854775807) : journal_Sum.l0 (k + 8) x l (l.length : Int) (i : Int) = journal_Sum.l0 (k + 4) (byteJ x l[i]) l (l.length : Int) ((i + 1 : Nat) : Int) := by
  have e2 : wrap64 ((i : Int) + 1) = ((i + 1 : Nat) : Int) := (wrap64_in' (by omega) (by omega)).trans (by omega)
  have e3 : rd l (i : Int) = l[i] := by simp [rd, hi]
  conv => lhs; unfold journal_Sum.l0
  rw [if_pos (by omega), if_pos (by omega), if_pos (by omega), e3]
  have e0 : (0 : Int) = ((0 : Nat) : Int) := rfl
  conv => lhs; arg 6; rw [e0]
  rw [show k + 7 = (k + 1) + 6 from rfl, sum_nib _ _ _ _ _ 0 (by omega), show k + 1 + 5 = k + 6 from rfl, sum_nib _ _ _ _ _ 1 (by omega)]
  conv => lhs; unfold journal_Sum.l1
  rw [if_neg (by omega), e2]
  rfl
theorem sum_loop (l : List Int) (hl : l.length ≤ 9223372036854775807) : ∀ (d i : Nat) (x : Int) (k : Nat), l.length - i = d → i ≤ l.length → 4 * d + 8 ≤ k → journal_Sum.l0 k x l (l.length : Int) (i : Int) = some (Go.bits .xor .u32 4294967295 ((l.drop i).foldl byteJ x)) := by
  intro d
  induction d with
  | zero =>
    intro i x k hd hi hk
    obtain ⟨k, rfl⟩ : ∃ m, k = m + 1 := ⟨k - 1, by omega⟩
    obtain rfl : i = l.length := by omega
    conv => lhs; unfold journal_Sum.l0
    rw [if_neg (by omega), List.drop_length]
    rfl
  | succ d ih =>
    intro i x k hd hi hk
    obtain ⟨k, rfl⟩ : ∃ m, k = m + 8 := ⟨k - 8, by omega⟩
    have hlt : i < l.length := by omega
    rw [sum_byte k x l i hlt hl, ih (i + 1) _ (k + 4) (by omega) (by omega) (by omega), List.drop_eq_getElem_cons hlt]
    rfl
theorem sum_ev (l : List Int) (hl : l.length ≤ 9223372036854775807) (k : Nat) (hk : 4 * l.length + 8 ≤ k) : journal_Sum.f k l = some (crcJ l) := by
  unfold journal_Sum.f
  have e0 : (0 : Int) = ((0 : Nat) : Int) := rfl
  conv => lhs; arg 5; rw [e0]
  rw [sum_loop l hl l.length 0 _ k (by omega) (by omega) hk]
  rfl
def OneQ (w : World) (g : Nat) (A : Option Addr) (c : Nat) (l : List Int) (a : Nat) (res : Option (S29 × Nat)) (e : Ending) (w' : World) : Prop :=
  w.grownBy w' (some g) ∧ match res with
  | none => e = .panicked (kindJ 3) ∧ Rj w' g A l.length c a
  | some (x, a') => ∃ v, e = .returned (.agg #[.int .i64 x.f0, v]) ∧ Kd.R (Kd.int .u8) 5 w' w.heap.size (fun _ => True) v x.f1 ∧ Rj w' g A l.length c a'
theorem one_no {w : World} {g : Nat} {A : Option Addr} {c : Nat} {l : List Int} {a : Nat} {res : Option (S29 × Nat)} {e : Ending} {w' : World} (hr : res = none) (hg : w.grownBy w' (some g)) (he : e = .panicked (kindJ 3)) (hd : Rj w' g A l.length c a) : OneQ w g A c l a res e w' := by
  subst hr; exact ⟨hg, he, hd⟩
theorem one_yes {w : World} {g : Nat} {A : Option Addr} {c : Nat} {l : List Int} {a : Nat} {res : Option (S29 × Nat)} {x : S29} {a' : Nat} {e : Ending} {w' : World} {v : Value} (hr : res = some (x, a')) (hg : w.grownBy w' (some g)) (he : e = .returned (.agg #[.int .i64 x.f0, v]))
    (hv : Kd.R (Kd.int .u8) 5 w' w.heap.size (fun _ => True) v x.f1) (hd : Rj w' g A l.length c a') : OneQ w g A c l a res e w' := by
  subst hr; exact ⟨hg, v, he, hv, hd⟩
def headJ (l : List Int) (a : Nat) : List Int := (l.drop (a + 0)).take 6
def lenJ (l : List Int) (a : Nat) : Int := numJ ((headJ l a).drop 2)
def goodHead (l : List Int) (a : Nat) : Bool := rd (headJ l a) 0 == 165 && decide (lenJ l a ≤ 100000)
def sizeJ (l : List Int) (a : Nat) : Nat := 6 + (lenJ l a).toNat
def goodSum (l : List Int) (a : Nat) : Bool := numJ ((l.drop (a + sizeJ l a)).take 4) == crcJ ((l.drop (a + 0)).take (sizeJ l a))
def rOneJ (l : List Int) (a : Nat) : Option (S29 × Nat) :=
  if a + 0 + 6 ≤ l.length then (if goodHead l a = true then (if a + sizeJ l a + 4 ≤ l.length then (if goodSum l a = true then some (⟨wrap64 (rd (headJ l a) 1), (l.drop (a + 6)).take (lenJ l a).toNat⟩, a + sizeJ l a + 4) else none) else none) else none) else none
theorem rj_alloc {w : World} {g : Nat} {A : Option Addr} {n c : Nat} {at_ : Int} (h : Rj w g A n c at_) (o : Obj) : Rj (w.alloc o) g A n c at_ := blk_alloc h o
theorem rj_drewN {w : World} {g : Nat} {A : Option Addr} {n c : Nat} {at_ : Int} (h : Rj w g A n c at_) (m : Nat) : Rj (w.drewN m) g A n c at_ := h
set_option maxHeartbeats 1000000 in
set_option maxRecDepth 100000 in
theorem one_short (w : World) (g : Nat) (A : Option Addr) (c a : Nat) (l : List Int) (h : Rj w g A l.length c a) (hr : Kd.C (Kd.int .u8) w A l.length l) (hc : l.length ≤ c) (hl : l.length ≤ 100000000) (ha : a ≤ l.length)
    (hn : ¬ a + 0 + 6 ≤ l.length) : Calls Try.prog 39 #[.pointer (some ⟨g, 0, none⟩)] w (OneQ w g A c l a (rOneJ l a)) := by
  have ER : Aside0 (rOneJ l a = none) := ⟨by unfold rOneJ; rw [if_neg hn]⟩
  have HR := Aside0.mk h
  have HT : Aside0 (∀ W : World, Rj W g A l.length c a → Calls Try.prog 41 #[.pointer (some ⟨g, 0, none⟩), .int .i64 0, .int .i64 6] W fun e w' => (∃ m, w' = W.drewN m) ∧ e = .panicked (kindJ 3)) := ⟨fun W hR => take_bad W g A c a 0 6 l hR hl ha (by omega) hn⟩
  clear h hr hc hn
  go_enter Try.func39, Try.ntmps39
  go_wp2_with (go_at_call 41; (with_reducible refine (HT.out _ (rj_alloc HR.out _)).mono ?_); rintro e w1 ⟨⟨m, rfl⟩, rfl⟩)
  exact ⟨rfl, one_no ER.out (gb_drewN (gb_alloc (gb_refl _ _) _) _) rfl (rj_drewN (rj_alloc HR.out _) _)⟩
theorem bits32_range (op : BinOp) (x y : Int) : 0 ≤ Go.bits op .u32 x y ∧ Go.bits op .u32 x y < 4294967296 := by
  unfold Go.bits
  simp only [IntKind.wrap_u32]
  omega
theorem numJ_range (l : List Int) : 0 ≤ numJ l ∧ numJ l < 4294967296 := bits32_range .or _ _
theorem C_un {w : World} {n : Nat} {A : Option Addr} {k : Nat} {xs : List Int} (h : Kd.C (Kd.int .u8) (w.drewN n) A k xs) : Kd.C (Kd.int .u8) w A k xs := h
theorem rj_drew {w : World} {g : Nat} {A : Option Addr} {n c : Nat} {at_ : Int} (h : Rj w g A n c at_) : Rj w.drew g A n c at_ := h
theorem add1 (ad : Addr) : ad.add (1 : Int).toNat = ⟨ad.block, ad.off + 1, none⟩ := by simp [Addr.add]
theorem add0 (ad : Addr) : ad.add (0 : Int).toNat = ad := by simp [Addr.add]
set_option maxHeartbeats 4000000 in
set_option maxRecDepth 100000 in
theorem one_long (w : World) (g : Nat) (A : Option Addr) (c a : Nat) (l : List Int) (h : Rj w g A l.length c a) (hr : Kd.C (Kd.int .u8) w A l.length l) (hc : l.length ≤ c) (hl : l.length ≤ 100000000)
    (hn : a + 0 + 6 ≤ l.length) : Calls Try.prog 39 #[.pointer (some ⟨g, 0, none⟩)] w (OneQ w g A c l a (rOneJ l a)) := by
  have HR := Aside0.mk h
  have HC := Aside0.mk hr
  obtain ⟨s, hs⟩ : ∃ s, s = headJ l a := ⟨_, rfl⟩
  have hs6 : s.length = 6 := by rw [hs]; unfold headJ; simp; omega
  have HT : Aside0 (∀ W : World, Rj W g A l.length c a → Kd.C (Kd.int .u8) W A l.length l → Calls Try.prog 41 #[.pointer (some ⟨g, 0, none⟩), .int .i64 0, .int .i64 6] W fun e w' => (∃ m, w' = W.drewN m) ∧ ∃ (A' : Option Addr) (c' : Nat), e = .returned (.slice A' s.length c') ∧ (∀ W2 : World, Kd.C (Kd.int .u8) W2 A l.length l → Kd.C (Kd.int .u8) W2 A' s.length s) ∧ s.length ≤ c') := ⟨fun W hR hC => take_okW W g A c a 0 6 l s hR hC hc hl hs hn⟩
  have hnr := numJ_range ((headJ l a).drop 2)
  obtain ⟨N, hnn⟩ := Int.eq_ofNat_of_zero_le hnr.1
  have hn1 : (N : Int) < 4294967296 := by have := hnr.2; omega
  have hn1' : N < 4294967296 := by omega
  have hlen : lenJ l a = (N : Int) := hnn
  have hsize : sizeJ l a = 6 + N := by unfold sizeJ; rw [hlen]; rfl
  obtain ⟨s2, hs2⟩ : ∃ s2, s2 = s.drop 2 := ⟨_, rfl⟩
  have EV : Aside0 (journal_number.f 5 s2 = some (N : Int)) := ⟨by rw [hs2, number_ev _ (by simp [hs6]), hs]; exact congrArg some hnn⟩
  have hg0 : goodHead l a = (rd s 0 == 165 && decide ((N : Int) ≤ 100000)) := by unfold goodHead; rw [hlen, hs]
  obtain ⟨i0, hi0, _, hsz, _⟩ := info_parts info5
  have HCUT : Aside0 (∀ (A' : Option Addr) (c' : Nat), s.length ≤ c' → ∃ A'' : Option Addr, (∀ W : World, (Instr.slice 22 (.slice A' s.length c') (some (.int .i64 2)) none none).run Try.prog W = .ok (.slice A'' s2.length (c' - 2)) W) ∧
      (∀ w : World, Kd.C (Kd.int .u8) w A' s.length s → Kd.C (Kd.int .u8) w A'' s2.length s2) ∧ s2.length ≤ c' - 2) := ⟨fun A' c' h' => by
    obtain ⟨A'', h1, h2, h3⟩ := print_drop_of (P := Try.prog) (Value.int .u8) 0 22 5 .i64 Try.underlying22 hi0 hsz A' c' s 2 (by omega) (by omega) h'
    rw [show ((2 : Int).toNat) = 2 from rfl, ← hs2] at h1 h2 h3
    exact ⟨A'', h1, fun w hC => Kd.C_of_reads (h1 := fun _ => rfl) (h2 w (Kd.reads_of_C hC)), h3⟩⟩
  have p0 : (0 ≤ (0 : Int)) = True := eq_true (by omega)
  have q0 : (0 : Int) < (s.length : Int) := by omega
  have q0n : 0 < s.length := by omega
  have q1 : (1 : Int) < (s.length : Int) := by omega
  have q1n : 1 < s.length := by omega
  have HQ := Aside0.mk q0
  have HQ1 := Aside0.mk q1
  have HL := Aside0.mk hlen
  have HSI := Aside0.mk hsize
  have HS0 := Aside0.mk hs
  have HH := Aside0.mk hg0
  have HN := Aside0.mk hn
  have HLL := Aside0.mk hl
  have HCC := Aside0.mk hc
  clear h hr hc hn hnn hnr hg0 hi0 hsz hs hs6 hs2 hl hsize hlen
  have HM := Aside0.mk must_no
  have HM1 := Aside0.mk must_yes
  by_cases b0 : rd s 0 = 165
  · have d0 : (rd s 0 == 165) = true := by rw [b0]; rfl
    by_cases b1 : (N : Int) ≤ 100000
    · have d1 : decide ((N : Int) ≤ 100000) = true := decide_eq_true b1
      have hgood : goodHead l a = true := by rw [HH.out, d0, d1]; rfl
      have HGO := Aside0.mk hgood
      clear hgood b0
      by_cases b2 : a + (6 + N) + 4 ≤ l.length
      · obtain ⟨u, hu⟩ : ∃ u, u = (l.drop (a + (6 + N))).take 4 := ⟨_, rfl⟩
        obtain ⟨v, hv⟩ : ∃ v, v = (l.drop (a + 0)).take (6 + N) := ⟨_, rfl⟩
        obtain ⟨y, hy⟩ : ∃ y, y = (l.drop (a + 6)).take N := ⟨_, rfl⟩
        have hu4 : u.length = 4 := by rw [hu]; simp; omega
        have hvl : v.length = 6 + N := by rw [hv]; simp; omega
        have hyl : y.length = N := by rw [hy]; simp; omega
        have HT2 : Aside0 (∀ W : World, Rj W g A l.length c a → Kd.C (Kd.int .u8) W A l.length l → Calls Try.prog 41 #[.pointer (some ⟨g, 0, none⟩), .int .i64 (6 + (N : Int)), .int .i64 4] W fun e w' => (∃ m, w' = W.drewN m) ∧ ∃ (A' : Option Addr) (c' : Nat), e = .returned (.slice A' u.length c') ∧ Kd.C (Kd.int .u8) W A' u.length u ∧ u.length ≤ c') := ⟨fun W hR hC => by
          have := take_ok W g A c a (6 + N) 4 l u hR hC HCC.out HLL.out hu b2
          rw [show (((6 + N : Nat) : Int)) = 6 + (N : Int) by omega] at this
          exact this⟩
        have HT3 : Aside0 (∀ W : World, Rj W g A l.length c a → Kd.C (Kd.int .u8) W A l.length l → Calls Try.prog 41 #[.pointer (some ⟨g, 0, none⟩), .int .i64 0, .int .i64 (6 + (N : Int))] W fun e w' => (∃ m, w' = W.drewN m) ∧ ∃ (A' : Option Addr) (c' : Nat), e = .returned (.slice A' v.length c') ∧ Kd.C (Kd.int .u8) W A' v.length v ∧ v.length ≤ c') := ⟨fun W hR hC => by
          have := take_ok W g A c a 0 (6 + N) l v hR hC HCC.out HLL.out hv (by omega)
          rw [show (((6 + N : Nat) : Int)) = 6 + (N : Int) by omega] at this
          exact this⟩
        have HT4 : Aside0 (∀ W : World, Rj W g A l.length c a → Kd.C (Kd.int .u8) W A l.length l → Calls Try.prog 41 #[.pointer (some ⟨g, 0, none⟩), .int .i64 6, .int .i64 (N : Int)] W fun e w' => (∃ m, w' = W.drewN m) ∧ ∃ (A' : Option Addr) (c' : Nat), e = .returned (.slice A' y.length c') ∧ Kd.C (Kd.int .u8) W A' y.length y ∧ y.length ≤ c') := ⟨fun W hR hC => take_ok W g A c a 6 N l y hR hC HCC.out HLL.out hy (by omega)⟩
        have EV2 : Aside0 (journal_number.f 5 u = some (numJ u)) := ⟨number_ev _ (by omega)⟩
        have EV3 : Aside0 (journal_Sum.f (4 * v.length + 8) v = some (crcJ v)) := ⟨sum_ev _ (by omega) _ (Nat.le_refl _)⟩
        have HS1 : Aside0 (goodSum l a = (numJ u == crcJ v)) := ⟨by unfold goodSum; rw [HSI.out, hu, hv]⟩
        have EV4 : Aside0 (slices_Clone.f y = some y) := ⟨by unfold slices_Clone.f; rw [if_pos (by omega)]⟩
        have HU := Aside0.mk hu; have HV := Aside0.mk hv; have HY := Aside0.mk hy; have HB2 := Aside0.mk b2
        obtain ⟨n1, hn1_⟩ : ∃ n1, numJ u = n1 := ⟨_, rfl⟩
        obtain ⟨n2, hn2_⟩ : ∃ n2, crcJ v = n2 := ⟨_, rfl⟩
        rw [hn1_] at EV2 HS1; rw [hn2_] at EV3 HS1
        clear hu hv hy hu4 hvl hyl b2 hn1_ hn2_
        by_cases b3 : n1 = n2
        · have d3 : (n1 == n2) = true := by rw [b3]; exact beq_self_eq_true _
          have d3' : decide (n1 = n2) = true := decide_eq_true b3
          have ER : Aside0 (rOneJ l a = some (⟨wrap64 (rd s 1), y⟩, a + (6 + N) + 4)) := ⟨by unfold rOneJ; rw [if_pos HN.out, if_pos HGO.out, HSI.out, if_pos HB2.out, if_pos (by rw [HS1.out, d3]), HL.out, ← HS0.out]; simp only [Int.toNat_natCast]; rw [← HY.out]⟩
          clear b3 d3'
          go_enter Try.func39, Try.ntmps39
          go_wp2_with (first
            | (go_at_call 41; (with_reducible refine (HT.out _ (rj_alloc HR.out _) (Kd.C_alloc HC.out _)).mono ?_); rintro e w1 ⟨⟨m, rfl⟩, A', c', rfl, hCW, hc'⟩; have hC := hCW _ (Kd.C_alloc HC.out (.cells #[.int .i64 0, .slice none 0 0] 29)); obtain ⟨A'', hcut, hcc, hlc⟩ := HCUT.out A' c' hc'; obtain ⟨ad, rfl, hx0⟩ := Kd.at_int hC 0 (by omega) HQ.out; rw [add0] at hx0; obtain ⟨ad1, e1_, hx1⟩ := Kd.at_int hC 1 (by omega) HQ1.out; cases e1_; rw [add1] at hx1; have HX1 := Aside0.mk hx1; clear hx1; obtain ⟨ad2, e2_, hx2⟩ := Kd.at_int (hCW _ HC.out) 1 (by omega) HQ1.out; cases e2_; rw [add1] at hx2; have hlt_ : ad.block < w.heap.size := World.block_lt_of_cell? w ⟨ad.block, ad.off + 1, none⟩ hx2; clear hx2; have HC2 := Aside0.mk (Kd.C_drewN (hcc _ hC) m); have HL2 := Aside0.mk hlc; clear hC hCW hc' hcc hlc)
            | (go_at_call 42; (with_reducible refine (journal_number.calls 5 _ _ s2 (N : Int) _ HC2.out HL2.out EV.out).mono ?_); rintro e w2 ⟨rfl, ⟨m2, rfl⟩⟩)
            | (go_at_call 43; (with_reducible refine (HM1.out _ _).mono ?_); rintro e w3 ⟨⟨m3, rfl⟩, rfl⟩)
            | (go_at_call 41; (with_reducible refine (HT2.out _ (rj_drewN (rj_alloc HR.out _) _) (Kd.C_drewN (Kd.C_alloc HC.out _) _)).mono ?_); rintro e w4 ⟨⟨m4, rfl⟩, A4, c4, rfl, hC4, hc4⟩; have HC4 := Aside0.mk (fun k => Kd.C_drewN (C_un hC4) k); have HL4 := Aside0.mk hc4; clear hC4 hc4)
            | (go_at_call 42; (with_reducible refine (journal_number.calls 5 _ _ u n1 _ (HC4.out _) HL4.out EV2.out).mono ?_); rintro e w5 ⟨rfl, ⟨m5, rfl⟩⟩)
            | (go_at_call 41; (with_reducible refine (HT3.out _ (rj_drewN (rj_alloc HR.out _) _) (Kd.C_drewN (Kd.C_alloc HC.out _) _)).mono ?_); rintro e w6 ⟨⟨m6, rfl⟩, A6, c6, rfl, hC6, hc6⟩; have HC6 := Aside0.mk (fun k => Kd.C_drewN (C_un hC6) k); have HL6 := Aside0.mk hc6; clear hC6 hc6)
            | (go_at_call 18; (with_reducible refine (journal_Sum.calls _ _ _ v n2 _ (HC6.out _) HL6.out EV3.out).mono ?_); rintro e w7 ⟨rfl, ⟨m7, rfl⟩⟩))
          have RJ5 : Aside0 (∀ k, Rj ((w.alloc (.cells #[.int .i64 0, .slice none 0 0] 29)).drewN k) g A l.length c a) := ⟨fun k => rj_drewN (rj_alloc HR.out _) k⟩
          have C5 : Aside0 (∀ k, Kd.C (Kd.int .u8) ((w.alloc (.cells #[.int .i64 0, .slice none 0 0] 29)).drewN k) A l.length l) := ⟨fun k => Kd.C_drewN (Kd.C_alloc HC.out _) k⟩
          have X5 : Aside0 (∀ k, ((w.alloc (.cells #[.int .i64 0, .slice none 0 0] 29)).drewN k).cell? ⟨ad.block, ad.off + 1, none⟩ = some (.int .u8 (rd s 1))) := ⟨fun k => HX1.out⟩
          have B5 : Aside0 (∀ k, ((w.alloc (.cells #[.int .i64 0, .slice none 0 0] 29)).drewN k).heap[w.heap.size]? = some (.cells #[.int .i64 0, .slice none 0 0] 29 (0, 0))) := ⟨fun k => blk_drewN (blk_new w _) k⟩
          have G5 : Aside0 (∀ k, w.grownBy ((w.alloc (.cells #[.int .i64 0, .slice none 0 0] 29)).drewN k) (some g)) := ⟨fun k => gb_drewN (gb_alloc (gb_refl _ _) _) _⟩
          have Z5 : Aside0 (∀ k, ((w.alloc (.cells #[.int .i64 0, .slice none 0 0] 29)).drewN k).heap.size = w.heap.size + 1) := ⟨fun k => by simp⟩
          generalize hK5 : m + m2 + _ + m4 + m5 + m6 + m7 + m3 = K5
          generalize hW5 : (w.alloc (.cells #[.int .i64 0, .slice none 0 0] 29)).drewN K5 = W5
          replace RJ5 : Aside0 (Rj W5 g A l.length c a) := ⟨by rw [← hW5]; exact RJ5.out _⟩
          replace C5 : Aside0 (Kd.C (Kd.int .u8) W5 A l.length l) := ⟨by rw [← hW5]; exact C5.out _⟩
          replace X5 : Aside0 (W5.cell? ⟨ad.block, ad.off + 1, none⟩ = some (.int .u8 (rd s 1))) := ⟨by rw [← hW5]; exact X5.out _⟩
          replace B5 : Aside0 (W5.heap[w.heap.size]? = some (.cells #[.int .i64 0, .slice none 0 0] 29 (0, 0))) := ⟨by rw [← hW5]; exact B5.out _⟩
          replace G5 : Aside0 (w.grownBy W5 (some g)) := ⟨by rw [← hW5]; exact G5.out _⟩
          replace Z5 : Aside0 (W5.heap.size = w.heap.size + 1) := ⟨by rw [← hW5]; exact Z5.out _⟩
          clear hW5 hK5 hx0 hcut HX1
          have en : IntKind.i64.wrap (N : Int) = (N : Int) := IntWalk.i64_in _ (by omega)
          have ek := i64_w (rd s 1)
          go_region_held3 (fun w' => w'.cell? ⟨ad.block, ad.off + 1, none⟩ = some (.int .u8 (rd s 1)))
            (first | exact X5.out | exact X9.out | exact X10.out | exact ((cell_far (a := ⟨ad.block, ad.off + 1, none⟩) (p := ⟨w.heap.size, 1, none⟩) (Nat.ne_of_lt hlt_) _).trans ((cell_far (a := ⟨ad.block, ad.off + 1, none⟩) (p := ⟨w.heap.size, 0, none⟩) (Nat.ne_of_lt hlt_) _).trans X10.out)))
            (first
              | (go_at_call 41; (with_reducible refine (HT4.out _ (rj_drew RJ5.out) (Kd.C_drew C5.out)).mono ?_); rintro e w9 ⟨⟨m9, rfl⟩, A9, c9, rfl, hC9, hc9⟩; have X9 : Aside0 ((W5.drewN (1 + m9)).cell? ⟨ad.block, ad.off + 1, none⟩ = some (.int .u8 (rd s 1))) := ⟨X5.out⟩; have HC9 := Aside0.mk (C_un hC9); have HL9 := Aside0.mk hc9; clear hC9 hc9)
              | (go_at_call 36; (with_reducible refine (slices_Clone.calls _ _ y y _ (Kd.C_drewN HC9.out _) HL9.out EV4.out).mono ?_); rintro e w10 ⟨v10, rfl, ho10, hb10⟩; have HO10 := Aside0.mk ho10; obtain ⟨A10, c10, rfl⟩ := Kd.R_slice ho10; have X10 : Aside0 (w10.cell? ⟨ad.block, ad.off + 1, none⟩ = some (.int .u8 (rd s 1))) := ⟨pw_cell_below hb10 X9.out⟩; have hB := blk_below (blk_drewN B5.out (1 + m9)) hb10; have c20 : w10.cell? ⟨w.heap.size, 0, none⟩ = some (.int .i64 0) := (blk_cell hB 0).trans rfl; have c21 : w10.cell? ⟨w.heap.size, 1, none⟩ = some (.slice none 0 0) := (blk_cell hB 1).trans rfl; have f20 := blk_frozen hB 0; have f21 := blk_frozen hB 1; have HB10 := Aside0.mk hB; have HW10 := Aside0.mk hb10; clear hB ho10 hb10))
          have HGL : Aside0 (g < w.heap.size) := ⟨blk_lt (show w.heap[g]? = _ from HR.out)⟩
          have HGN : Aside0 (g ≠ w.heap.size) := ⟨Nat.ne_of_lt HGL.out⟩
          have B12 := Aside0.mk (blk_put (blk_put HB10.out 0 (.int .i64 (wrap64 (rd s 1))) rfl) 1 (.slice A10 y.length c10) rfl)
          have RJ10 : Rj w10 g A l.length c a := blk_below (rj_drewN RJ5.out _) HW10.out
          have RJ12 := Aside0.mk (show Rj _ g A l.length c a from blk_far (p := ⟨w.heap.size, 1, none⟩) (blk_far (p := ⟨w.heap.size, 0, none⟩) RJ10 HGN.out (.int .i64 (wrap64 (rd s 1)))) HGN.out (.slice A10 y.length c10))
          have O12 := Aside0.mk (Kd.R_lower (base' := w.heap.size) (Kd.R_set (Kd.R_set HO10.out HB10.out (by decide) 0 (.int .i64 (wrap64 (rd s 1)))) (blk_put HB10.out 0 (.int .i64 (wrap64 (rd s 1))) rfl) (by decide) 1 (.slice A10 y.length c10)) (by have := Z5.out; simp; omega))
          have G12 := Aside0.mk (gb_new (gb_new (gb_below (gb_drewN G5.out (1 + m9)) HW10.out) w.heap.size 0 (Nat.le_refl _) (.int .i64 (wrap64 (rd s 1)))) w.heap.size 1 (Nat.le_refl _) (.slice A10 y.length c10))
          generalize (w10.setCell ⟨w.heap.size, 0, none⟩ (.int .i64 (wrap64 (rd s 1)))).setCell ⟨w.heap.size, 1, none⟩ (.slice A10 y.length c10) = W12 at B12 RJ12 O12 G12 ⊢
          clear RJ10 HO10 HB10 HW10 X10 X9 X5 RJ5 C5 B5 G5 Z5 c20 c21 f20 f21 en ek
          have k0 : W12.cell? ⟨g, 1, none⟩ = some (.int .i64 a) := (blk_cell (show W12.heap[g]? = _ from RJ12.out) 1).trans rfl
          have kf : W12.frozen? ⟨g, 1, none⟩ = false := blk_frozen (show W12.heap[g]? = _ from RJ12.out) 1
          have ha0 : (0 : Int) ≤ (a : Int) := by omega
          have ha1 : (a : Int) ≤ 100000000 := by have := HLL.out; have := HN.out; omega
          go_upto_region 8 with (fail)
          have B13 := Aside0.mk (blk_far (p := ⟨g, 1, none⟩) B12.out (fun e => HGN.out e.symm) (.int .i64 ((a : Int) + (6 + (N : Int) + 4))))
          have RJ13 : Aside0 (Rj (W12.setCell ⟨g, 1, none⟩ (.int .i64 ((a : Int) + (6 + (N : Int) + 4)))) g A l.length c ((a + (6 + N) + 4 : Nat) : Int)) := ⟨by
            rw [show ((a + (6 + N) + 4 : Nat) : Int) = (a : Int) + (6 + (N : Int) + 4) by omega]
            exact blk_put (show W12.heap[g]? = _ from RJ12.out) 1 _ rfl⟩
          have O13 := Aside0.mk (Kd.R_set O12.out (show W12.heap[g]? = _ from RJ12.out) (by decide) 1 (.int .i64 ((a : Int) + (6 + (N : Int) + 4))))
          have G13 := Aside0.mk (gb_set G12.out 1 (.int .i64 ((a : Int) + (6 + (N : Int) + 4))))
          generalize W12.setCell ⟨g, 1, none⟩ (.int .i64 ((a : Int) + (6 + (N : Int) + 4))) = W13 at B13 RJ13 O13 G13 ⊢
          have c20 : W13.cell? ⟨w.heap.size, 0, none⟩ = some (.int .i64 (wrap64 (rd s 1))) := (blk_cell B13.out 0).trans rfl
          have c21 : W13.cell? ⟨w.heap.size, 1, none⟩ = some (.slice A10 y.length c10) := (blk_cell B13.out 1).trans rfl
          have f20 := blk_frozen B13.out 0
          have f21 := blk_frozen B13.out 1
          clear k0 kf B12 RJ12 O12 G12 ha0 ha1
          go_wp2
          have B14 := Aside0.mk (blk_put (blk_put B13.out 0 (.int .i64 (wrap64 (rd s 1))) rfl) 1 (.slice A10 y.length c10) rfl)
          have RJ14 := Aside0.mk (show Rj _ g A l.length c _ from blk_far (p := ⟨w.heap.size, 1, none⟩) (blk_far (p := ⟨w.heap.size, 0, none⟩) (show W13.heap[g]? = _ from RJ13.out) HGN.out (.int .i64 (wrap64 (rd s 1)))) HGN.out (.slice A10 y.length c10))
          have O14 := Aside0.mk (Kd.R_set (Kd.R_set O13.out B13.out (by decide) 0 (.int .i64 (wrap64 (rd s 1)))) (blk_put B13.out 0 (.int .i64 (wrap64 (rd s 1))) rfl) (by decide) 1 (.slice A10 y.length c10))
          have G14 := Aside0.mk (gb_new (gb_new G13.out w.heap.size 0 (Nat.le_refl _) (.int .i64 (wrap64 (rd s 1)))) w.heap.size 1 (Nat.le_refl _) (.slice A10 y.length c10))
          generalize (W13.setCell ⟨w.heap.size, 0, none⟩ (.int .i64 (wrap64 (rd s 1)))).setCell ⟨w.heap.size, 1, none⟩ (.slice A10 y.length c10) = W14 at B14 RJ14 O14 G14 ⊢
          have r20 : W14.cell? ⟨w.heap.size, 0, none⟩ = some (.int .i64 (wrap64 (rd s 1))) := (blk_cell B14.out 0).trans rfl
          have r21 : W14.cell? ⟨w.heap.size, 1, none⟩ = some (.slice A10 y.length c10) := (blk_cell B14.out 1).trans rfl
          exact bodyPost_ret (v := .agg #[.int .i64 (wrap64 (rd s 1)), .slice A10 y.length c10]) (by simp [results, Try.results39, go_sem, r20, r21]) rfl (one_yes ER.out G14.out rfl O14.out RJ14.out)
        · have d3 : (n1 == n2) = false := beq_eq_false_iff_ne.mpr b3
          have ER : Aside0 (rOneJ l a = none) := ⟨by unfold rOneJ; rw [if_pos HN.out, if_pos HGO.out, HSI.out, if_pos HB2.out, if_neg (by rw [HS1.out, d3]; simp)]⟩
          clear b3
          go_enter Try.func39, Try.ntmps39
          go_wp2_with (first
            | (go_at_call 41; (with_reducible refine (HT.out _ (rj_alloc HR.out _) (Kd.C_alloc HC.out _)).mono ?_); rintro e w1 ⟨⟨m, rfl⟩, A', c', rfl, hCW, hc'⟩; have hC := hCW _ (Kd.C_alloc HC.out (.cells #[.int .i64 0, .slice none 0 0] 29)); obtain ⟨A'', hcut, hcc, hlc⟩ := HCUT.out A' c' hc'; obtain ⟨ad, rfl, hx0⟩ := Kd.at_int hC 0 (by omega) HQ.out; rw [add0] at hx0; have HC2 := Aside0.mk (Kd.C_drewN (hcc _ hC) m); have HL2 := Aside0.mk hlc; clear hC hCW hc' hcc hlc)
            | (go_at_call 42; (with_reducible refine (journal_number.calls 5 _ _ s2 (N : Int) _ HC2.out HL2.out EV.out).mono ?_); rintro e w2 ⟨rfl, ⟨m2, rfl⟩⟩)
            | (go_at_call 43; (with_reducible refine (HM1.out _ _).mono ?_); rintro e w3 ⟨⟨m3, rfl⟩, rfl⟩)
            | (go_at_call 41; (with_reducible refine (HT2.out _ (rj_drewN (rj_alloc HR.out _) _) (Kd.C_drewN (Kd.C_alloc HC.out _) _)).mono ?_); rintro e w4 ⟨⟨m4, rfl⟩, A4, c4, rfl, hC4, hc4⟩; have HC4 := Aside0.mk (fun k => Kd.C_drewN (C_un hC4) k); have HL4 := Aside0.mk hc4; clear hC4 hc4)
            | (go_at_call 42; (with_reducible refine (journal_number.calls 5 _ _ u n1 _ (HC4.out _) HL4.out EV2.out).mono ?_); rintro e w5 ⟨rfl, ⟨m5, rfl⟩⟩)
            | (go_at_call 41; (with_reducible refine (HT3.out _ (rj_drewN (rj_alloc HR.out _) _) (Kd.C_drewN (Kd.C_alloc HC.out _) _)).mono ?_); rintro e w6 ⟨⟨m6, rfl⟩, A6, c6, rfl, hC6, hc6⟩; have HC6 := Aside0.mk (fun k => Kd.C_drewN (C_un hC6) k); have HL6 := Aside0.mk hc6; clear hC6 hc6)
            | (go_at_call 18; (with_reducible refine (journal_Sum.calls _ _ _ v n2 _ (HC6.out _) HL6.out EV3.out).mono ?_); rintro e w7 ⟨rfl, ⟨m7, rfl⟩⟩)
            | (go_at_call 43; (with_reducible refine (HM.out _ _).mono ?_); rintro e w8 ⟨⟨m8, rfl⟩, rfl⟩))
          exact ⟨rfl, one_no ER.out (gb_drewN (gb_alloc (gb_refl _ _) _) _) rfl (rj_drewN (rj_alloc HR.out _) _)⟩
      · have ER : Aside0 (rOneJ l a = none) := ⟨by unfold rOneJ; rw [if_pos HN.out, if_pos HGO.out, HSI.out, if_neg b2]⟩
        have HT2 : Aside0 (∀ W : World, Rj W g A l.length c a → Calls Try.prog 41 #[.pointer (some ⟨g, 0, none⟩), .int .i64 (6 + (N : Int)), .int .i64 4] W fun e w' => (∃ m, w' = W.drewN m) ∧ e = .panicked (kindJ 3)) := ⟨fun W hR => by
          have := take_bad W g A c a (6 + N) 4 l hR HLL.out (by have := HN.out; omega) (by omega) b2
          rw [show (((6 + N : Nat) : Int)) = 6 + (N : Int) by omega] at this
          exact this⟩
        clear b2
        go_enter Try.func39, Try.ntmps39
        go_wp2_with (first
          | (go_at_call 41; (with_reducible refine (HT.out _ (rj_alloc HR.out _) (Kd.C_alloc HC.out _)).mono ?_); rintro e w1 ⟨⟨m, rfl⟩, A', c', rfl, hCW, hc'⟩; have hC := hCW _ (Kd.C_alloc HC.out (.cells #[.int .i64 0, .slice none 0 0] 29)); obtain ⟨A'', hcut, hcc, hlc⟩ := HCUT.out A' c' hc'; obtain ⟨ad, rfl, hx0⟩ := Kd.at_int hC 0 (by omega) HQ.out; rw [add0] at hx0; have HC2 := Aside0.mk (Kd.C_drewN (hcc _ hC) m); have HL2 := Aside0.mk hlc; clear hC hCW hc' hcc hlc)
          | (go_at_call 42; (with_reducible refine (journal_number.calls 5 _ _ s2 (N : Int) _ HC2.out HL2.out EV.out).mono ?_); rintro e w2 ⟨rfl, ⟨m2, rfl⟩⟩)
          | (go_at_call 43; (with_reducible refine (HM1.out _ _).mono ?_); rintro e w3 ⟨⟨m3, rfl⟩, rfl⟩)
          | (go_at_call 41; (with_reducible refine (HT2.out _ (rj_drewN (rj_alloc HR.out _) _)).mono ?_); rintro e w1 ⟨⟨m4, rfl⟩, rfl⟩))
        exact ⟨rfl, one_no ER.out (gb_drewN (gb_alloc (gb_refl _ _) _) _) rfl (rj_drewN (rj_alloc HR.out _) _)⟩
    · have d1 : decide ((N : Int) ≤ 100000) = false := decide_eq_false b1
      have ER : Aside0 (rOneJ l a = none) := ⟨by unfold rOneJ; rw [if_pos HN.out, if_neg (by rw [HH.out, d1]; simp)]⟩
      clear b1
      go_enter Try.func39, Try.ntmps39
      go_wp2_with (first
        | (go_at_call 41; (with_reducible refine (HT.out _ (rj_alloc HR.out _) (Kd.C_alloc HC.out _)).mono ?_); rintro e w1 ⟨⟨m, rfl⟩, A', c', rfl, hCW, hc'⟩; have hC := hCW _ (Kd.C_alloc HC.out (.cells #[.int .i64 0, .slice none 0 0] 29)); obtain ⟨A'', hcut, hcc, hlc⟩ := HCUT.out A' c' hc'; obtain ⟨ad, rfl, hx0⟩ := Kd.at_int hC 0 (by omega) HQ.out; rw [add0] at hx0; have HC2 := Aside0.mk (Kd.C_drewN (hcc _ hC) m); have HL2 := Aside0.mk hlc; clear hC hCW hc' hcc hlc)
        | (go_at_call 42; (with_reducible refine (journal_number.calls 5 _ _ s2 (N : Int) _ HC2.out HL2.out EV.out).mono ?_); rintro e w2 ⟨rfl, ⟨m2, rfl⟩⟩)
        | (go_at_call 43; (with_reducible refine (HM.out _ _).mono ?_); rintro e w3 ⟨⟨m3, rfl⟩, rfl⟩))
      exact ⟨rfl, one_no ER.out (gb_drewN (gb_alloc (gb_refl _ _) _) _) rfl (rj_drewN (rj_alloc HR.out _) _)⟩
  · have d0 : (rd s 0 == 165) = false := beq_eq_false_iff_ne.mpr b0
    have ER : Aside0 (rOneJ l a = none) := ⟨by unfold rOneJ; rw [if_pos HN.out, if_neg (by rw [HH.out, d0]; simp)]⟩
    clear b0
    go_enter Try.func39, Try.ntmps39
    go_wp2_with (first
      | (go_at_call 41; (with_reducible refine (HT.out _ (rj_alloc HR.out _) (Kd.C_alloc HC.out _)).mono ?_); rintro e w1 ⟨⟨m, rfl⟩, A', c', rfl, hCW, hc'⟩; have hC := hCW _ (Kd.C_alloc HC.out (.cells #[.int .i64 0, .slice none 0 0] 29)); obtain ⟨A'', hcut, hcc, hlc⟩ := HCUT.out A' c' hc'; obtain ⟨ad, rfl, hx0⟩ := Kd.at_int hC 0 (by omega) HQ.out; rw [add0] at hx0; have HC2 := Aside0.mk (Kd.C_drewN (hcc _ hC) m); have HL2 := Aside0.mk hlc; clear hC hCW hc' hcc hlc)
      | (go_at_call 42; (with_reducible refine (journal_number.calls 5 _ _ s2 (N : Int) _ HC2.out HL2.out EV.out).mono ?_); rintro e w2 ⟨rfl, ⟨m2, rfl⟩⟩)
      | (go_at_call 43; (with_reducible refine (HM.out _ _).mono ?_); rintro e w3 ⟨⟨m3, rfl⟩, rfl⟩))
    exact ⟨rfl, one_no ER.out (gb_drewN (gb_alloc (gb_refl _ _) _) _) rfl (rj_drewN (rj_alloc HR.out _) _)⟩
theorem one_any (w : World) (g : Nat) (A : Option Addr) (c a : Nat) (l : List Int) (h : Rj w g A l.length c a) (hr : Kd.C (Kd.int .u8) w A l.length l) (hc : l.length ≤ c) (hl : l.length ≤ 100000000) (ha : a ≤ l.length) :
    Calls Try.prog 39 #[.pointer (some ⟨g, 0, none⟩)] w (OneQ w g A c l a (rOneJ l a)) := by
  by_cases hn : a + 0 + 6 ≤ l.length
  · exact one_long w g A c a l h hr hc hl hn
  · exact one_short w g A c a l h hr hc hl ha hn
theorem oneQ_no {w : World} {g : Nat} {A : Option Addr} {c : Nat} {l : List Int} {a : Nat} {res : Option (S29 × Nat)} {e : Ending} {w' : World} (hr : res = none) (h : OneQ w g A c l a res e w') : e = .panicked (kindJ 3) ∧ w.grownBy w' (some g) ∧ Rj w' g A l.length c a := by
  subst hr; exact ⟨h.2.1, h.1, h.2.2⟩
theorem oneQ_yes {w : World} {g : Nat} {A : Option Addr} {c : Nat} {l : List Int} {a : Nat} {res : Option (S29 × Nat)} {x : S29} {a' : Nat} {e : Ending} {w' : World} (hr : res = some (x, a')) (h : OneQ w g A c l a res e w') :
    ∃ v, e = .returned (.agg #[.int .i64 x.f0, v]) ∧ w.grownBy w' (some g) ∧ Kd.R (Kd.int .u8) 5 w' w.heap.size (fun _ => True) v x.f1 ∧ Rj w' g A l.length c a' := by
  subst hr; obtain ⟨hg, v, he, hv, hd⟩ := h; exact ⟨v, he, hg, hv, hd⟩

set_option maxHeartbeats 1000000 in
theorem catch38_panicking (h : Nat) (b : Bool) (k : Int) (older : List PanicEntry) (w : World) (H : w.heap[h]? = some (.cells #[.bool b] 4 (0, 0))) :
    CallsD Try.prog 38 #[.pointer (some ⟨h, 0, none⟩)] (.panicking ({ v := .iface 26 (.int .i64 k), recovered := false } :: older)) w
      fun e u' w' => e = .returned (.tuple #[]) ∧ u' = .panicking ({ v := .iface 26 (.int .i64 k), recovered := true } :: older) ∧ w' = w.setCell ⟨h, 0, none⟩ (.bool false) := by
  refine callsD_of_wpS Try.func38 rfl fun c₀ cs hu => ?_
  have a0 : w.cell? ⟨h, 0, none⟩ = some (.bool b) := (blk_cell H 0).trans rfl
  have fa := blk_frozen H 0
  clear H
  repeat (first | apply wpS_seq | (apply wpS_region; simp [wpOpsS, go_sem, recoverD, hu, Try.ntmps38, Exit.thenS]))
  refine wpS_cond (t := true) (by simp [Act.eval, Array.replicate]) ?_
  simp only [if_true]
  refine wpS_of_wp ?_
  go_wp2
  simp [bodyPostS, results, Try.results38]

theorem catch38_idle (h : Nat) (w : World) :
    CallsD Try.prog 38 #[.pointer (some ⟨h, 0, none⟩)] .returning w fun e u' w' => e = .returned (.tuple #[]) ∧ u' = .returning ∧ w' = w := by
  refine callsD_of_wpS Try.func38 rfl fun c₀ cs hu => ?_
  repeat (first | apply wpS_seq | (apply wpS_region; simp [wpOpsS, go_sem, recoverD, hu, Try.ntmps38, Exit.thenS]))
  refine wpS_cond (t := false) (by simp [Act.eval, Array.replicate]) ?_
  simp only [Bool.false_eq_true, if_false]
  refine wpS_of_wp (wp_skip ?_)
  cases c₀
  simp_all [bodyPostS, results, Try.results38]

def NextQ (w : World) (g : Nat) (A : Option Addr) (c : Nat) (l : List Int) (a : Nat) (res : Option (S29 × Nat)) (e : Ending) (w' : World) : Prop :=
  w.grownBy w' (some g) ∧ match res with
  | none => e = .returned (.tuple #[.agg #[.int .i64 0, .slice none 0 0], .bool false]) ∧ Rj w' g A l.length c a
  | some (x, a') => ∃ v, e = .returned (.tuple #[.agg #[.int .i64 x.f0, v], .bool true]) ∧ Kd.R (Kd.int .u8) 5 w' w.heap.size (fun _ => True) v x.f1 ∧ Rj w' g A l.length c a'
theorem next_no {w : World} {g : Nat} {A : Option Addr} {c : Nat} {l : List Int} {a : Nat} {res : Option (S29 × Nat)} {e : Ending} {w' : World} (hr : res = none) (hg : w.grownBy w' (some g)) (he : e = .returned (.tuple #[.agg #[.int .i64 0, .slice none 0 0], .bool false])) (hd : Rj w' g A l.length c a) : NextQ w g A c l a res e w' := by
  subst hr; exact ⟨hg, he, hd⟩
theorem next_yes {w : World} {g : Nat} {A : Option Addr} {c : Nat} {l : List Int} {a : Nat} {res : Option (S29 × Nat)} {x : S29} {a' : Nat} {e : Ending} {w' : World} {v : Value} (hr : res = some (x, a')) (hg : w.grownBy w' (some g)) (he : e = .returned (.tuple #[.agg #[.int .i64 x.f0, v], .bool true]))
    (hv : Kd.R (Kd.int .u8) 5 w' w.heap.size (fun _ => True) v x.f1) (hd : Rj w' g A l.length c a') : NextQ w g A c l a res e w' := by
  subst hr; exact ⟨hg, v, he, hv, hd⟩
/-- what function 33 hands back -/
theorem leaves33 {w : World} {h : Nat} {tmps : Array Value} {k : Int} {v : Value} {b : Bool} {P : Ending → World → Prop} (hv : v.oneCell' = true) (H0 : w.heap[h]? = some (.cells #[.int .i64 k, v] 29 (0, 0))) (H1 : w.heap[h + 1]? = some (.cells #[.bool b] 4 (0, 0)))
    (ht2 : tmps[2]?.getD undef = .pointer (some ⟨h, 0, none⟩)) (ht3 : tmps[3]?.getD undef = .pointer (some ⟨h + 1, 0, none⟩)) (hP : P (.returned (.tuple #[.agg #[.int .i64 k, v], .bool b])) w) :
    Leaves Try.prog Try.f33 tmps P [] .returning w := by
  have a0 : w.cell? ⟨h, 0, none⟩ = some (.int .i64 k) := (blk_cell H0 0).trans rfl
  have a1 : w.cell? ⟨h, 1, none⟩ = some v := (blk_cell H0 1).trans rfl
  have b0 : w.cell? ⟨h + 1, 0, none⟩ = some (.bool b) := (blk_cell H1 0).trans rfl
  refine ⟨.tuple #[.agg #[.int .i64 k, v], .bool b], ?_, hP⟩
  simp [results, Try.results33, go_sem, ht2, ht3, a0, a1, b0]
set_option maxHeartbeats 2000000 in
set_option maxRecDepth 100000 in
theorem next_any (w : World) (g : Nat) (A : Option Addr) (c a : Nat) (l : List Int) (h : Rj w g A l.length c a) (hr : Kd.C (Kd.int .u8) w A l.length l) (hc : l.length ≤ c) (hl : l.length ≤ 100000000) (ha : a ≤ l.length) :
    Calls Try.prog 33 #[.pointer (some ⟨g, 0, none⟩)] w (NextQ w g A c l a (rOneJ l a)) := by
  have HR := Aside0.mk h
  have HO := Aside0.mk (one_any ((w.alloc (.cells #[.int .i64 0, .slice none 0 0] 29)).alloc (.cells #[.bool false] 4)) g A c a l (rj_alloc (rj_alloc h _) _) (Kd.C_alloc (Kd.C_alloc hr _) _) hc hl ha)
  have HGL : Aside0 (g < w.heap.size) := ⟨blk_lt (show w.heap[g]? = _ from h)⟩
  have hmf : ∀ (fn : Fn) (first cap : Array Value) (w : World), (Instr.makeFunc fn first cap).run Try.prog w = .ok (.func fn first cap) w := fun _ _ _ _ => rfl
  have B0 := Aside0.mk (blk_alloc (blk_new w (.cells #[.int .i64 0, .slice none 0 0] 29)) (.cells #[.bool false] 4))
  have B1 : Aside0 (((w.alloc (.cells #[.int .i64 0, .slice none 0 0] 29)).alloc (.cells #[.bool false] 4)).heap[w.heap.size + 1]? = some (.cells #[.bool false] 4 (0, 0))) := ⟨by
    have := blk_new (w.alloc (.cells #[.int .i64 0, .slice none 0 0] 29)) (.cells #[.bool false] 4); simpa using this⟩
  clear h hr hc hl ha
  have N0 : Aside0 (some w.heap.size ≠ some g) := ⟨fun e => by injection e with e; have := HGL.out; omega⟩
  have N1 : Aside0 (some (w.heap.size + 1) ≠ some g) := ⟨fun e => by injection e with e; have := HGL.out; omega⟩
  have G0 : Aside0 (w.grownBy ((w.alloc (.cells #[.int .i64 0, .slice none 0 0] 29)).alloc (.cells #[.bool false] 4)) (some g)) := ⟨gb_alloc (gb_alloc (gb_refl _ _) _) _⟩
  rcases hres : rOneJ l a with _ | ⟨x, a'⟩
  · have HE := Aside0.mk hres
    clear hres
    go_enter_defers Try.func33, Try.ntmps33
    go_wp2_with (go_at_call 39; (with_reducible refine HO.out.mono ?_); rintro e w1 hq; obtain ⟨rfl, hg1, hrd⟩ := oneQ_no HE.out hq; clear hq)
    have D0 := blk_grown B0.out hg1 N0.out
    have D1 := blk_grown B1.out hg1 N1.out
    refine leaves_cons (f := 38) (args := #[.pointer (some ⟨w.heap.size + 1, 0, none⟩)]) (by simp) (by simp [go_sem]) ?_
    refine (catch38_panicking (w.heap.size + 1) false 3 [] _ D1).mono ?_
    rintro e u' w2 ⟨rfl, rfl, rfl⟩
    have hset : settle (.panicking ({ v := .iface 26 (.int .i64 3), recovered := true } :: [])) = .returning := by simp [settle]
    show Leaves Try.prog Try.f33 _ (NextQ w g A c l a none) [] (settle (.panicking ({ v := .iface 26 (.int .i64 3), recovered := true } :: []))) _
    rw [hset]
    exact leaves33 (h := w.heap.size) rfl (blk_far D0 (by simp) _) (blk_put D1 0 _ rfl) rfl rfl (next_no rfl (gb_new (gb_trans G0.out hg1) _ _ (by omega) _) rfl (blk_far (show w1.heap[g]? = _ from hrd) (by have := HGL.out; show g ≠ w.heap.size + 1; omega) _))
  · have HE := Aside0.mk hres
    clear hres
    go_enter_defers Try.func33, Try.ntmps33
    go_wp2_with (go_at_call 39; (with_reducible refine HO.out.mono ?_); rintro e w1 hq; obtain ⟨v, rfl, hg1, hv, hrd⟩ := oneQ_yes HE.out hq; clear hq; have HV := Aside0.mk hv; obtain ⟨A1, c1, rfl⟩ := Kd.R_slice hv; have D0 := Aside0.mk (blk_grown B0.out hg1 N0.out); have D1 := Aside0.mk (blk_grown B1.out hg1 N1.out); have c00 : w1.cell? ⟨w.heap.size, 0, none⟩ = some (.int .i64 0) := (blk_cell D0.out 0).trans rfl; have c01 : w1.cell? ⟨w.heap.size, 1, none⟩ = some (.slice none 0 0) := (blk_cell D0.out 1).trans rfl; have c10 : w1.cell? ⟨w.heap.size + 1, 0, none⟩ = some (.bool false) := (blk_cell D1.out 0).trans rfl; have f00 := blk_frozen D0.out 0; have f01 := blk_frozen D0.out 1; have f10 := blk_frozen D1.out 0; have HG1 := Aside0.mk hg1; have HRD := Aside0.mk hrd; clear hg1 hv hrd)
    have E0 := blk_put (blk_put D0.out 0 (.int .i64 x.f0) rfl) 1 (.slice A1 x.f1.length c1) rfl
    have E1 := blk_far (p := ⟨w.heap.size, 1, none⟩) (blk_far (p := ⟨w.heap.size, 0, none⟩) D1.out (by simp) (.int .i64 x.f0)) (by simp) (.slice A1 x.f1.length c1)
    have O1 := Kd.R_set (Kd.R_set (Kd.R_set HV.out D0.out (by decide) 0 (.int .i64 x.f0)) (blk_put D0.out 0 (.int .i64 x.f0) rfl) (by decide) 1 (.slice A1 x.f1.length c1)) E1 (by decide) 0 (.bool true)
    have RJ := blk_far (p := ⟨w.heap.size + 1, 0, none⟩) (blk_far (p := ⟨w.heap.size, 1, none⟩) (blk_far (p := ⟨w.heap.size, 0, none⟩) (show w1.heap[g]? = _ from HRD.out) (by have := HGL.out; show g ≠ w.heap.size; omega) (.int .i64 x.f0)) (by have := HGL.out; show g ≠ w.heap.size; omega) (.slice A1 x.f1.length c1)) (by have := HGL.out; show g ≠ w.heap.size + 1; omega) (.bool true)
    refine leaves_cons (f := 38) (args := #[.pointer (some ⟨w.heap.size + 1, 0, none⟩)]) (by simp) (by simp [go_sem]) ?_
    refine (catch38_idle (w.heap.size + 1) _).mono ?_
    rintro e u' w2 ⟨rfl, rfl, rfl⟩
    have hset : settle .returning = .returning := by simp [settle]
    show Leaves Try.prog Try.f33 _ (NextQ w g A c l a (some (x, a'))) [] (settle .returning) _
    rw [hset]
    exact leaves33 (h := w.heap.size) rfl (blk_far E0 (by simp) _) (blk_put E1 0 _ rfl) rfl rfl (next_yes rfl (gb_new (gb_new (gb_new (gb_trans G0.out HG1.out) _ _ (Nat.le_refl _) _) _ _ (Nat.le_refl _) _) _ _ (by omega) _) rfl (Kd.R_lower O1 (by simp; omega)) RJ)
theorem nextQ_no {w : World} {g : Nat} {A : Option Addr} {c : Nat} {l : List Int} {a : Nat} {res : Option (S29 × Nat)} {e : Ending} {w' : World} (hr : res = none) (h : NextQ w g A c l a res e w') : e = .returned (.tuple #[.agg #[.int .i64 0, .slice none 0 0], .bool false]) ∧ w.grownBy w' (some g) ∧ Rj w' g A l.length c a := by
  subst hr; exact ⟨h.2.1, h.1, h.2.2⟩
theorem nextQ_yes {w : World} {g : Nat} {A : Option Addr} {c : Nat} {l : List Int} {a : Nat} {res : Option (S29 × Nat)} {x : S29} {a' : Nat} {e : Ending} {w' : World} (hr : res = some (x, a')) (h : NextQ w g A c l a res e w') :
    ∃ v, e = .returned (.tuple #[.agg #[.int .i64 x.f0, v], .bool true]) ∧ w.grownBy w' (some g) ∧ Kd.R (Kd.int .u8) 5 w' w.heap.size (fun _ => True) v x.f1 ∧ Rj w' g A l.length c a' := by
  subst hr; obtain ⟨hg, v, he, hv, hd⟩ := h; exact ⟨v, he, hg, hv, hd⟩
/-- records, one behind the other -/
def readsJ : Nat → List Int → Nat → List S29 → Option (List S29 × Nat)
  | 0, _, _, _ => none
  | k + 1, l, a, acc => match rOneJ l a with
    | none => some (acc, a)
    | some (x, a') => readsJ k l a' (acc ++ [x])
def journal_Read.f (l0 : List Int) : Option (List S29 × Int) := if l0.length ≤ 100000000 then (match readsJ (l0.length + 1) l0 0 [] with | none => none | some (r, a) => some (r, (a : Int))) else none
theorem rOneJ_adv {l : List Int} {a : Nat} {x : S29} {a' : Nat} (h : rOneJ l a = some (x, a')) : a + 10 ≤ a' ∧ a' ≤ l.length := by
  unfold rOneJ at h
  split at h
  · split at h
    · split at h
      · split at h
        · simp only [Option.some.injEq, Prod.mk.injEq] at h
          have : sizeJ l a = 6 + (lenJ l a).toNat := rfl
          omega
        · cases h
      · cases h
    · cases h
  · cases h
theorem info29J : (Try.prog.info? 29).map (fun i => (i.zero, i.size, i.bytes)) = some (some (.agg #[(.int .i64 0), (.slice none 0 0)]), 2, 32) := by kernel_rfl
def ReadQ (w : World) (r1 : List S29) (r2 : Int) (e : Ending) (w' : World) : Prop := ∃ v0_ : Value, e = .returned (.tuple #[v0_, .int .i64 r2]) ∧ Kd.R k29 29 w' w.heap.size (fun _ => True) v0_ r1 ∧ Below w.heap.size w w'
theorem hx_ (w : World) (o : Obj) (n : Nat) : Value.slice (some ⟨w.heap.size + 1, 0, none⟩) n n = Value.slice (some ⟨(w.alloc o).heap.size, 0, none⟩) n n := by simp
set_option maxHeartbeats 2000000 in
set_option maxRecDepth 100000 in
theorem read_any (A0 : Option Addr) (c0 : Nat) (l : List Int) (r1 : List S29) (r2 : Nat) (w : World) (hr : Kd.C (Kd.int .u8) w A0 l.length l) (hc : l.length ≤ c0) (hl : l.length ≤ 100000000) (h : readsJ (l.length + 1) l 0 [] = some (r1, r2)) :
    Calls Try.prog 13 #[.slice A0 l.length c0] w (ReadQ w r1 r2) := by
  have HC := Aside0.mk hr
  have HCC := Aside0.mk hc
  have HL := Aside0.mk hl
  have HRes := Aside0.mk h
  have HBl := Aside0.mk (below_alloc (Below.refl w.heap.size w) (.cells #[.slice A0 l.length c0, .int .i64 0] 69))
  have HRj : Aside0 (Rj (w.alloc (.cells #[.slice A0 l.length c0, .int .i64 0] 69)) w.heap.size A0 l.length c0 ((0 : Nat) : Int)) := ⟨blk_new w _⟩
  clear hr hc hl h
  go_enter Try.func13, Try.ntmps13
  go_wp2
  go_loopg [2, 5, 6] (l.length + 1) (fun kq v2 v5 v6 w' => ∃ (a : Nat) (acc : List S29), Aside0 (a ≤ l.length) ∧ Aside0 (l.length + 1 ≤ kq + a) ∧ Aside0 (acc.length ≤ a) ∧ Aside0 (readsJ kq l a acc = some (r1, r2)) ∧
    Aside0 (Rj w' w.heap.size A0 l.length c0 a) ∧ Aside0 (Kd.R k29 29 w' w.heap.size (fun _ => True) v2 acc) ∧ Aside0 (Below w.heap.size w w'))
  case atStart => exact ⟨0, [], ⟨by omega⟩, ⟨by omega⟩, ⟨by simp⟩, HRes, HRj, ⟨Kd.R_nil _ _ _ _ _⟩, HBl⟩
  case round =>
    obtain ⟨a, acc, HA, HK, HAL, HU, HR, HO, HW⟩ := hrel
    obtain ⟨k, rfl⟩ : ∃ k, gk = k + 1 := ⟨gk - 1, by have := HA.out; have := HK.out; omega⟩
    have HN := Aside0.mk (next_any wr w.heap.size A0 c0 a l HR.out (Kd.C_below HC.out HW.out) HCC.out HL.out HA.out)
    have HOn := Aside0.mk (Kd.R_types HO.out HR.out (by decide))
    rcases hres : rOneJ l a with _ | ⟨x, a'⟩
    · have HE := Aside0.mk hres
      have HU2 : Aside0 (acc = r1 ∧ a = r2) := ⟨by have := HU.out; unfold readsJ at this; rw [hres] at this; simpa using this⟩
      obtain ⟨e1, e2⟩ := HU2.out
      subst e1; subst e2
      clear hres
      go_wp2_with (go_at_call 33; (with_reducible refine HN.out.mono ?_); rintro e w1 hq; obtain ⟨rfl, hg1, hrd⟩ := nextQ_no HE.out hq; clear hq; have HG1 := Aside0.mk hg1; have HR1 := Aside0.mk hrd; clear hg1 hrd)
      have k1 : (w1.alloc (.cells #[.int .i64 0, .slice none 0 0] 29)).cell? ⟨w.heap.size, 1, none⟩ = some (.int .i64 a) := (blk_cell (blk_alloc (show w1.heap[w.heap.size]? = _ from HR1.out) (.cells #[.int .i64 0, .slice none 0 0] 29)) 1).trans rfl
      go_quiet (fail)
      go_wp2
      go_ret2
      exact ⟨u2, rfl, Kd.R_drewN (Kd.R_alloc (Kd.R_mono (Kd.R_grown HOn.out HG1.out (fun k hk e => hk.2 (by injection e))) (fun _ _ => trivial)) _) _, pw_below_drewN (below_alloc (HW.out.grown HG1.out HW.out.size (fun k hk => by injection hk with hk; omega)) _) _⟩
    · have HE := Aside0.mk hres
      have HU2 : Aside0 (readsJ k l a' (acc ++ [x]) = some (r1, r2)) := ⟨by have := HU.out; unfold readsJ at this; rw [hres] at this; exact this⟩
      have HAD := Aside0.mk (rOneJ_adv hres)
      clear hres
      go_wp2_with (first
        | (go_at_call 33; (with_reducible refine HN.out.mono ?_); rintro e w1 hq; obtain ⟨v, rfl, hg1, hv, hrd⟩ := nextQ_yes HE.out hq; clear hq; have HG1 := Aside0.mk hg1; have HR1 := Aside0.mk hrd; have HV1 := Aside0.mk hv; obtain ⟨A1, c1, rfl⟩ := Kd.R_slice hv; clear hg1 hrd hv)
        | (at_builtin; refine Kd.R_append k29 (w0 := w) (W := w1.alloc (.cells #[.int .i64 x.f0, .slice A1 x.f1.length c1] 29)) w.heap.size (by rfl) (.tmp 22) (.tmp 24) 32 29 (.agg #[(.int .i64 0), (.slice none 0 0)]) 32 rfl Try.underlying32 info29J rfl (by decide) (by decide) u2 acc x [.int .i64 x.f0, .slice A1 x.f1.length c1] (fun _ => True) (fun k => wr.heap.size ≤ k) (by rfl) (hx_ _ _ _) (k29_mkM _ _ _ x (Kd.R_alloc (Kd.R_lower (Kd.R_mono (Kd.R_bound HV1.out) (fun _ h => h.2.1)) HW.out.size) _)) (fun k hk => ⟨trivial, fun e => by have := Kd.R_lt HO.out k e.symm; omega⟩) (fun _ _ => trivial) (Kd.R_alloc (Kd.R_mono (Kd.R_grown HOn.out HG1.out (fun k hk e => hk.2 (by injection e))) (fun _ _ => trivial)) _) (below_alloc (HW.out.grown HG1.out HW.out.size (fun k hk => by injection hk with hk; omega)) _) (by have := HW.out.size; have := HG1.out.size; simp; omega) (by have := HAL.out; have := HA.out; have := HL.out; omega) ?_; intro v3 w2 ho2 hb2 hg2 hat2; have HO2 := Aside0.mk ho2; have HB2 := Aside0.mk hb2; have HR2 := Aside0.mk (blk_grown (blk_alloc (show w1.heap[w.heap.size]? = _ from HR1.out) (.cells #[.int .i64 x.f0, .slice A1 x.f1.length c1] 29)) hg2 (Kd.R_ne HO.out HR.out (by decide))); clear ho2 hb2 hg2 hat2))
      go_roundg k
      case measure => omega
      case rel => exact ⟨a', acc ++ [x], ⟨HAD.out.2⟩, ⟨by have := HK.out; have := HAD.out.1; omega⟩, ⟨by have := HAL.out; have := HAD.out.1; simp; omega⟩, HU2, HR2, HO2, HB2⟩
theorem journal_Read.calls (A0 : Option Addr) (c0 : Nat) (l0 : List Int) (r1 : List (S29)) (r2 : Int) (w : World) (hr0 : Kd.C (Kd.int .u8) w A0 l0.length l0) (hc0 : l0.length ≤ c0) (h : journal_Read.f l0 = some (r1, r2)) :
    Calls Try.prog 13 #[.slice A0 l0.length c0] w fun e w' => ∃ v0_ : Value, e = .returned (.tuple #[v0_, .int .i64 r2]) ∧ Kd.R k29 29 w' w.heap.size (fun _ => True) v0_ r1 ∧ Below w.heap.size w w' := by
  unfold journal_Read.f at h
  by_cases hl : l0.length ≤ 100000000
  · rw [if_pos hl] at h
    split at h
    · cases h
    · rename_i r a hq
      have h1 := Option.some.inj h
      simp only [Prod.mk.injEq] at h1
      obtain ⟨e1, e2⟩ := h1
      subst e1; subst e2
      exact read_any A0 c0 l0 r a w hr0 hc0 hl hq
  · rw [if_neg hl] at h
    cases h

-- NOT PRINTED: function 37 (journal_of)

-- NOT PRINTED: function 30 (journal_Open)

end Go.Proofs.Ytmcdpgopjfpjeaa.S
