-- Written by a program of this session for this claim (it follows the print's forms). Not trusted: Lean checks it.
import Derived.Test.YtmohadimhapacaaS0
import Derived.Test.YtmohadimhapacaaS1
namespace Go.Proofs.Ytmohadimhapacaa.S
open Go.RowKit Go.Proofs.YtmohadimhapacaaW.PrintWords Go.Proofs.YtmohadimhapacaaW.PrintLast Go.Proofs.YtmohadimhapacaaW.PrintMore
attribute [local go_sem] max2_int min2_int max_two min_two max_three min_three max_four min_four   -- for this text's walks alone
set_option linter.unusedVariables false
set_option linter.unusedSimpArgs false

/-! ### escape_Unquote: function 10 -/

/-- the reader at block g -/
def Rd (w : World) (g : Nat) (s : ByteArray) (at_ : Int) : Prop := w.heap[g]? = some (.cells #[.string s, .int .i64 at_] 44 (0, 0))
theorem gb_refl (w : World) (r : Option Nat) : w.grownBy w r := ⟨rfl, rfl, rfl, Nat.le_refl _, fun _ _ _ => rfl⟩
theorem gb_drewN {w w' : World} {r : Option Nat} (h : w.grownBy w' r) (n : Nat) : w.grownBy (w'.drewN n) r := ⟨h.os, h.tape, h.output, h.size, h.block⟩
theorem gb_set {w w' : World} {g : Nat} (h : w.grownBy w' (some g)) (j : Nat) (u : Value) : w.grownBy (w'.setCell ⟨g, j, none⟩ u) (some g) := by
  refine ⟨h.os, h.tape, h.output, by simpa using h.size, fun k hk hne => ?_⟩
  rw [Below.heap_setCell w' ⟨g, j, none⟩ u k (fun e => hne (by rw [e]))]
  exact h.block k hk hne
theorem gb_trans {w w1 w2 : World} {r : Option Nat} (h : w.grownBy w1 r) (k : w1.grownBy w2 r) : w.grownBy w2 r :=
  ⟨k.os.trans h.os, k.tape.trans h.tape, k.output.trans h.output, Nat.le_trans h.size k.size, fun i hi hne => (k.block i (Nat.lt_of_lt_of_le hi h.size) hne).trans (h.block i hi hne)⟩
def kindE (k : Int) : List PanicEntry := [{ v := .iface 23 (.int .i64 k), recovered := false }]

/-- what a reader's method does: a byte and a new place, or a panic with a kind -/
def Tells (w : World) (g : Nat) (s : ByteArray) (res : Except Int (Int × Int)) (e : Ending) (w' : World) : Prop :=
  w.grownBy w' (some g) ∧ match res with
  | .ok (c, a) => e = .returned (.int .u8 c) ∧ Rd w' g s a
  | .error k => e = .panicked (kindE k)
theorem tells_ok {w : World} {g : Nat} {s : ByteArray} {res : Except Int (Int × Int)} {c a : Int} {e : Ending} {w' : World} (hr : res = .ok (c, a)) (hg : w.grownBy w' (some g)) (he : e = .returned (.int .u8 c)) (hd : Rd w' g s a) : Tells w g s res e w' := by
  subst hr; exact ⟨hg, he, hd⟩
theorem tells_no {w : World} {g : Nat} {s : ByteArray} {res : Except Int (Int × Int)} {k : Int} {e : Ending} {w' : World} (hr : res = .error k) (hg : w.grownBy w' (some g)) (he : e = .panicked (kindE k)) : Tells w g s res e w' := by
  subst hr; exact ⟨hg, he⟩
def rNext (s : ByteArray) (a : Int) : Except Int (Int × Int) := if a < s.size then .ok (bt s a, a + 1) else .error 9

set_option maxHeartbeats 1000000 in
set_option maxRecDepth 100000 in
theorem next_any (w : World) (g : Nat) (s : ByteArray) (a : Nat) (h : Rd w g s a) (hs : s.size ≤ 1000000) (ha : a ≤ s.size) :
    Calls Try.prog 35 #[.pointer (some ⟨g, 0, none⟩)] w (Tells w g s (rNext s a)) := by
  have hb : w.heap[g]? = some (.cells #[.string s, .int .i64 a] 44 (0, 0)) := h
  have c0 : w.cell? ⟨g, 0, none⟩ = some (.string s) := (blk_cell hb 0).trans rfl
  have c1 : w.cell? ⟨g, 1, none⟩ = some (.int .i64 a) := (blk_cell hb 1).trans rfl
  have f1 := blk_frozen hb 1
  have HB := Aside0.mk hb
  have HS := Aside0.mk hs
  clear h hb
  by_cases hlt : a < s.size
  · have hd : decide (s.size ≤ a) = false := decide_eq_false (by omega)
    have er : rNext s a = .ok (bt s a, a + 1) := by unfold rNext; rw [if_pos (by omega)]
    have ER := Aside0.mk er
    have HX : Aside0 (bt s a = ((s[a]'hlt).toNat : Int)) := ⟨by simp [bt, hlt]⟩
    have q1 : a < s.size := hlt
    clear er
    go_enter Try.func35, Try.ntmps35
    go_wp2_with fail
    go_quiet (fail)
    go_wp2_with fail
    have i1 : IntKind.i64.wrap ((a : Int) + 1 - 1) = (a : Int) := IntWalk.i64_in _ (by have := HS.out; omega) |>.trans (by omega)
    go_quiet (fail)
    go_wp2
    go_ret
    refine tells_ok ER.out (gb_drewN (gb_set (gb_drewN (gb_refl _ _) _) _ _) _) (by rw [HX.out]; rfl) ?_
    simpa [Rd] using blk_set (blk_drewN HB.out _) 1 (.int .i64 ((a : Int) + 1))
  · have hd : decide (s.size ≤ a) = true := decide_eq_true (by omega)
    have er : rNext s a = .error 9 := by unfold rNext; rw [if_neg (by omega)]
    have ER := Aside0.mk er
    clear er
    go_enter Try.func35, Try.ntmps35
    go_wp2_with fail
    go_quiet (fail)
    go_wp2
    refine ⟨rfl, tells_no ER.out (gb_drewN (gb_refl _ _) _) rfl⟩

theorem tells_inv_ok {w : World} {g : Nat} {s : ByteArray} {res : Except Int (Int × Int)} {c a : Int} {e : Ending} {w' : World} (hr : res = .ok (c, a)) (h : Tells w g s res e w') : e = .returned (.int .u8 c) ∧ w.grownBy w' (some g) ∧ Rd w' g s a := by
  subst hr; exact ⟨h.2.1, h.1, h.2.2⟩
theorem tells_inv_no {w : World} {g : Nat} {s : ByteArray} {res : Except Int (Int × Int)} {k : Int} {e : Ending} {w' : World} (hr : res = .error k) (h : Tells w g s res e w') : e = .panicked (kindE k) ∧ w.grownBy w' (some g) := by
  subst hr; exact ⟨h.2, h.1⟩
def hexs : ByteArray := ⟨#[48, 49, 50, 51, 52, 53, 54, 55, 56, 57, 97, 98, 99, 100, 101, 102]⟩
def hexv (c : Int) : Int := Lib.indexByte hexs.data.toList c.toNat.toUInt8
def rDigit (s : ByteArray) (a : Int) : Except Int (Int × Int) := match rNext s a with
  | .error k => .error k
  | .ok (c, a') => if hexv c < 0 then .error 3 else .ok (hexv c, a')
theorem rNext_cases (s : ByteArray) (a : Nat) : (∃ h : a < s.size, rNext s a = .ok (bt s a, ((a + 1 : Nat) : Int))) ∨ (s.size ≤ a ∧ rNext s a = .error 9) := by
  unfold rNext
  by_cases h : a < s.size
  · left; exact ⟨h, by rw [if_pos (by omega)]; rfl⟩
  · right; exact ⟨by omega, by rw [if_neg (by omega)]⟩
theorem hexv_bd (c : Int) : -1 ≤ hexv c ∧ hexv c ≤ 15 := by
  have h1 := Lib.indexByte_ge hexs.data.toList c.toNat.toUInt8
  refine ⟨h1, ?_⟩
  have key : ∀ (l : List UInt8) (c : UInt8), Lib.indexByte l c ≤ (l.length : Int) - 1 := by
    intro l c
    induction l with
    | nil => simp [Lib.indexByte]
    | cons b r ih =>
      unfold Lib.indexByte
      simp only [List.length_cons]
      split
      · omega
      · split
        · omega
        · omega
  have := key hexs.data.toList c.toNat.toUInt8
  have e : (hexs.data.toList.length : Int) - 1 = 15 := by decide
  unfold hexv; omega

set_option maxHeartbeats 1000000 in
set_option maxRecDepth 100000 in
theorem digit_any (w : World) (g : Nat) (s : ByteArray) (a : Nat) (h : Rd w g s a) (hs : s.size ≤ 1000000) (ha : a ≤ s.size) :
    Calls Try.prog 44 #[.pointer (some ⟨g, 0, none⟩)] w (Tells w g s (rDigit s a)) := by
  have H := Aside0.mk (next_any w g s a h hs ha)
  rcases rNext_cases s a with ⟨hlt, hr⟩ | ⟨hge, hr⟩
  · have HR := Aside0.mk hr
    have hb := hexv_bd (bt s a)
    have hh : (Lib.indexByte hexs.data.toList (bt s a).toNat.toUInt8) = hexv (bt s a) := rfl
    have HH := Aside0.mk hh
    clear h hr hh
    by_cases hx : hexv (bt s a) < 0
    · have er : rDigit s a = .error 3 := by unfold rDigit; rw [HR.out]; simp only; rw [if_pos hx]
      have ER := Aside0.mk er
      have hd : decide (hexv (bt s a) < 0) = true := decide_eq_true hx
      clear er hx
      go_enter Try.func44, Try.ntmps44
      go_wp2_with (first | (go_at_call 35; (with_reducible refine H.out.mono ?_); rintro e w1 ht; obtain ⟨rfl, hg1, hrd⟩ := tells_inv_ok HR.out ht; clear ht) | (go_at_call 47; (with_reducible refine (Try.strings_IndexByte _ _ _).mono ?_); rintro e w2 ⟨rfl, rfl⟩; rw [show (Lib.indexByte [48, 49, 50, 51, 52, 53, 54, 55, 56, 57, 97, 98, 99, 100, 101, 102] (bt s a).toNat.toUInt8) = hexv (bt s a) from rfl]))
      exact ⟨rfl, tells_no ER.out hg1 rfl⟩
    · have er : rDigit s a = .ok (hexv (bt s a), ((a + 1 : Nat) : Int)) := by unfold rDigit; rw [HR.out]; simp only; rw [if_neg hx]
      have ER := Aside0.mk er
      have hd : decide (hexv (bt s a) < 0) = false := decide_eq_false hx
      clear er hx
      go_enter Try.func44, Try.ntmps44
      go_wp2_with (first | (go_at_call 35; (with_reducible refine H.out.mono ?_); rintro e w1 ht; obtain ⟨rfl, hg1, hrd⟩ := tells_inv_ok HR.out ht; clear ht) | (go_at_call 47; (with_reducible refine (Try.strings_IndexByte _ _ _).mono ?_); rintro e w2 ⟨rfl, rfl⟩; rw [show (Lib.indexByte [48, 49, 50, 51, 52, 53, 54, 55, 56, 57, 97, 98, 99, 100, 101, 102] (bt s a).toNat.toUInt8) = hexv (bt s a) from rfl]))
      go_ret
      refine tells_ok ER.out hg1 ?_ hrd
      have e8 : hexv (bt s a) % 256 = hexv (bt s a) := by have := of_decide_eq_false hd; omega
      first | rfl | (simp [e8]; done)
  · have HR := Aside0.mk hr
    have er : rDigit s a = .error 9 := by unfold rDigit; rw [HR.out]
    have ER := Aside0.mk er
    clear h hr er
    go_enter Try.func44, Try.ntmps44
    go_wp2_with (first | (go_at_call 35; (with_reducible refine H.out.mono ?_); rintro e w1 ht; obtain ⟨rfl, hg1⟩ := tells_inv_no HR.out ht; clear ht))
    exact ⟨rfl, tells_no ER.out hg1 rfl⟩


theorem rDigit_cases (s : ByteArray) (a : Nat) : (∃ d : Int, 0 ≤ d ∧ d ≤ 15 ∧ a < s.size ∧ rDigit s a = .ok (d, ((a + 1 : Nat) : Int))) ∨ (∃ k, rDigit s a = .error k) := by
  unfold rDigit
  rcases rNext_cases s a with ⟨h, hr⟩ | ⟨h, hr⟩
  · rw [hr]
    simp only
    have hb := hexv_bd (bt s a)
    by_cases hx : hexv (bt s a) < 0
    · right; exact ⟨3, by rw [if_pos hx]⟩
    · left; exact ⟨hexv (bt s a), by omega, by omega, h, by rw [if_neg hx]⟩
  · right; exact ⟨9, by rw [hr]⟩
def badHi (c : Int) : Bool := decide (32 ≤ c) && decide (c < 112)
def badLo (c : Int) : Bool := (c == 10) || (c == 9) || (decide (32 ≤ c) && decide (c ≤ 126))
def rSpecial (s : ByteArray) (a : Int) : Except Int (Int × Int) := match rDigit s a with
  | .error k => .error k
  | .ok (d, a1) => if badHi (d * 16) = true then .error 3 else match rDigit s a1 with
    | .error k => .error k
    | .ok (d2, a2) => if badLo (d * 16 + d2) = true then .error 3 else .ok (d * 16 + d2, a2)

set_option maxHeartbeats 1000000 in
set_option maxRecDepth 100000 in
theorem special_any (w : World) (g : Nat) (s : ByteArray) (a : Nat) (h : Rd w g s a) (hs : s.size ≤ 1000000) (ha : a ≤ s.size) :
    Calls Try.prog 36 #[.pointer (some ⟨g, 0, none⟩)] w (Tells w g s (rSpecial s a)) := by
  have H := Aside0.mk (digit_any w g s a h hs ha)
  rcases rDigit_cases s a with ⟨d, hd0, hd1, hlt, hr⟩ | ⟨k, hr⟩
  · have HR := Aside0.mk hr
    clear h hr
    have HD := Aside0.mk (fun (w1 : World) (hrd : Rd w1 g s ((a + 1 : Nat) : Int)) => digit_any w1 g s (a + 1) hrd hs (by omega))
    rcases rDigit_cases s (a + 1) with ⟨d2, he0, he1, hlt2, hr2⟩ | ⟨k2, hr2⟩
    · have HR2 := Aside0.mk hr2
      have hor : Go.bits .or .u8 (d * 16) d2 = d * 16 + d2 := bits_join .u8 8 (by decide) wraps_u8 4 _ _ (by omega) (by omega) (by omega) he0 (by omega) (by omega)
      clear hr2
      go_enter Try.func36, Try.ntmps36
      go_wp2_with (first | (go_at_call 44; (with_reducible refine H.out.mono ?_); rintro e w1 ht; obtain ⟨rfl, hg1, hrd⟩ := tells_inv_ok HR.out ht; clear ht) | (go_at_call 44; refine (HD.out _ hrd).mono ?_; rintro e w2 ht; obtain ⟨rfl, hg2, hrd2⟩ := tells_inv_ok HR2.out ht; clear ht))
      all_goals (try simp only [beq_iff_eq, beq_eq_false_iff_ne, ne_eq] at *)
      all_goals first
        | (refine ⟨rfl, tells_no ?_ hg1 rfl⟩
           unfold rSpecial; rw [HR.out]; simp only; rw [if_pos (by unfold badHi; simp; omega)])
        | (refine ⟨rfl, tells_no ?_ (gb_trans hg1 hg2) rfl⟩
           unfold rSpecial; rw [HR.out]; simp only; rw [if_neg (by unfold badHi; simp; omega), HR2.out]; simp only; rw [if_pos (by unfold badLo; simp; omega)])
        | (go_ret
           refine tells_ok ?_ (gb_trans hg1 hg2) (by rfl) hrd2
           unfold rSpecial; rw [HR.out]; simp only; rw [if_neg (by unfold badHi; simp; omega), HR2.out]; simp only; rw [if_neg (by unfold badLo; simp; omega)])
    · have HR2 := Aside0.mk hr2
      clear hr2
      go_enter Try.func36, Try.ntmps36
      go_wp2_with (first | (go_at_call 44; (with_reducible refine H.out.mono ?_); rintro e w1 ht; obtain ⟨rfl, hg1, hrd⟩ := tells_inv_ok HR.out ht; clear ht) | (go_at_call 44; refine (HD.out _ hrd).mono ?_; rintro e w2 ht; obtain ⟨rfl, hg2⟩ := tells_inv_no HR2.out ht; clear ht))
      all_goals first
        | (refine ⟨rfl, tells_no ?_ hg1 rfl⟩
           unfold rSpecial; rw [HR.out]; simp only; rw [if_pos (by unfold badHi; simp; omega)])
        | (refine ⟨rfl, tells_no ?_ (gb_trans hg1 hg2) rfl⟩
           unfold rSpecial; rw [HR.out]; simp only; rw [if_neg (by unfold badHi; simp; omega), HR2.out])
  · have HR := Aside0.mk hr
    have er : rSpecial s a = .error k := by unfold rSpecial; rw [HR.out]
    have ER := Aside0.mk er
    clear h hr er
    go_enter Try.func36, Try.ntmps36
    go_wp2_with (first | (go_at_call 44; (with_reducible refine H.out.mono ?_); rintro e w1 ht; obtain ⟨rfl, hg1⟩ := tells_inv_no HR.out ht; clear ht))
    exact ⟨rfl, tells_no ER.out hg1 rfl⟩


def Tells2 (w : World) (g : Nat) (s : ByteArray) (res : Except Int (Int × Bool × Int)) (e : Ending) (w' : World) : Prop :=
  w.grownBy w' (some g) ∧ match res with
  | .ok (c, b, a) => e = .returned (.tuple #[.int .u8 c, .bool b]) ∧ Rd w' g s a
  | .error k => e = .panicked (kindE k)
theorem tells2_ok {w : World} {g : Nat} {s : ByteArray} {res : Except Int (Int × Bool × Int)} {c a : Int} {b : Bool} {e : Ending} {w' : World} (hr : res = .ok (c, b, a)) (hg : w.grownBy w' (some g)) (he : e = .returned (.tuple #[.int .u8 c, .bool b])) (hd : Rd w' g s a) : Tells2 w g s res e w' := by
  subst hr; exact ⟨hg, he, hd⟩
theorem tells2_no {w : World} {g : Nat} {s : ByteArray} {res : Except Int (Int × Bool × Int)} {k : Int} {e : Ending} {w' : World} (hr : res = .error k) (hg : w.grownBy w' (some g)) (he : e = .panicked (kindE k)) : Tells2 w g s res e w' := by
  subst hr; exact ⟨hg, he⟩
theorem tells2_inv_ok {w : World} {g : Nat} {s : ByteArray} {res : Except Int (Int × Bool × Int)} {c a : Int} {b : Bool} {e : Ending} {w' : World} (hr : res = .ok (c, b, a)) (h : Tells2 w g s res e w') : e = .returned (.tuple #[.int .u8 c, .bool b]) ∧ w.grownBy w' (some g) ∧ Rd w' g s a := by
  subst hr; exact ⟨h.2.1, h.1, h.2.2⟩
theorem tells2_inv_no {w : World} {g : Nat} {s : ByteArray} {res : Except Int (Int × Bool × Int)} {k : Int} {e : Ending} {w' : World} (hr : res = .error k) (h : Tells2 w g s res e w') : e = .panicked (kindE k) ∧ w.grownBy w' (some g) := by
  subst hr; exact ⟨h.2, h.1⟩
def rEsc (s : ByteArray) (c2 a2 : Int) : Except Int (Int × Bool × Int) :=
  if c2 = 34 then .ok (c2, false, a2) else if c2 = 92 then .ok (c2, false, a2) else if c2 = 110 then .ok (10, false, a2) else if c2 = 116 then .ok (9, false, a2) else
  if c2 = 120 then (match rSpecial s a2 with | .error k => .error k | .ok (c3, a3) => .ok (c3, false, a3)) else .error 3
def rOne (s : ByteArray) (a : Int) : Except Int (Int × Bool × Int) := match rNext s a with
  | .error k => .error k
  | .ok (c, a1) => if c = 34 then .ok (c, true, a1) else if c < 32 then .error 3 else if c > 126 then .error 3 else if c ≠ 92 then .ok (c, false, a1) else match rNext s a1 with
    | .error k => .error k
    | .ok (c2, a2) => rEsc s c2 a2
theorem rSpecial_cases (s : ByteArray) (a : Nat) : (∃ (d : Int) (a2 : Nat), 0 ≤ d ∧ d ≤ 255 ∧ a < a2 ∧ a2 ≤ s.size ∧ rSpecial s a = .ok (d, (a2 : Int))) ∨ (∃ k, rSpecial s a = .error k) := by
  unfold rSpecial
  rcases rDigit_cases s a with ⟨d, hd0, hd1, hlt, hr⟩ | ⟨k, hr⟩
  · rw [hr]
    simp only
    by_cases h1 : badHi (d * 16) = true
    · right; exact ⟨3, by rw [if_pos h1]⟩
    · rw [if_neg h1]
      rcases rDigit_cases s (a + 1) with ⟨d2, he0, he1, hlt2, hr2⟩ | ⟨k, hr2⟩
      · rw [hr2]
        simp only
        by_cases h2 : badLo (d * 16 + d2) = true
        · right; exact ⟨3, by rw [if_pos h2]⟩
        · left; exact ⟨d * 16 + d2, a + 1 + 1, by omega, by omega, by omega, by omega, by rw [if_neg h2]⟩
      · right; exact ⟨k, by rw [hr2]⟩
  · right; exact ⟨k, by rw [hr]⟩

set_option maxHeartbeats 2000000 in
set_option maxRecDepth 100000 in
theorem one_any (w : World) (g : Nat) (s : ByteArray) (a : Nat) (h : Rd w g s a) (hs : s.size ≤ 1000000) (ha : a ≤ s.size) :
    Calls Try.prog 26 #[.pointer (some ⟨g, 0, none⟩)] w (Tells2 w g s (rOne s a)) := by
  have H := Aside0.mk (next_any w g s a h hs ha)
  rcases rNext_cases s a with ⟨hlt, hr⟩ | ⟨hge, hr⟩
  · have HR := Aside0.mk hr
    clear h hr
    have hbt := bt_range s a
    obtain ⟨c, hc⟩ : ∃ c, bt s a = c := ⟨_, rfl⟩
    rw [hc] at hbt
    have HC := Aside0.mk hc
    have HR1 : Aside0 (rNext s a = .ok (c, ((a + 1 : Nat) : Int))) := ⟨by rw [HR.out, hc]⟩
    have HN := Aside0.mk (fun (w1 : World) (hrd : Rd w1 g s ((a + 1 : Nat) : Int)) => next_any w1 g s (a + 1) hrd hs (by omega))
    clear hc
    by_cases hesc : c = 92
    · subst hesc
      rcases rNext_cases s (a + 1) with ⟨hlt2, hr2⟩ | ⟨hge2, hr2⟩
      · have hbt2 := bt_range s ((a + 1 : Nat) : Int)
        obtain ⟨c2, hc2⟩ : ∃ c2, bt s ((a + 1 : Nat) : Int) = c2 := ⟨_, rfl⟩
        rw [hc2] at hbt2
        have HR2 : Aside0 (rNext s ((a + 1 : Nat) : Int) = .ok (c2, ((a + 1 + 1 : Nat) : Int))) := ⟨by rw [hr2, hc2]⟩
        have HSP := Aside0.mk (fun (w1 : World) (hrd : Rd w1 g s ((a + 1 + 1 : Nat) : Int)) => special_any w1 g s (a + 1 + 1) hrd hs (by omega))
        have er : rOne s a = rEsc s c2 ((a + 1 + 1 : Nat) : Int) := by
          unfold rOne; rw [HR1.out]; simp only; rw [if_neg (by decide), if_neg (by decide), if_neg (by decide), if_neg (by decide), HR2.out]
        have ER := Aside0.mk er
        clear hr2 hc2 er
        rcases rSpecial_cases s (a + 1 + 1) with ⟨c3, a3, g0, g1, g2, g3, hr3⟩ | ⟨k3, hr3⟩
        all_goals
          have HR3 := Aside0.mk hr3
          clear hr3
          go_enter Try.func26, Try.ntmps26
          go_wp2_with (first | (go_at_call 35; (with_reducible refine H.out.mono ?_); rintro e w1 ht; obtain ⟨rfl, hg1, hrd⟩ := tells_inv_ok HR1.out ht; clear ht) | (go_at_call 35; (with_reducible refine (HN.out _ hrd).mono ?_); rintro e w2 ht; obtain ⟨rfl, hg2, hrd2⟩ := tells_inv_ok HR2.out ht; clear ht) | (go_at_call 36; (with_reducible refine (HSP.out _ hrd2).mono ?_); rintro e w3 ht; first | (obtain ⟨rfl, hg3, hrd3⟩ := tells_inv_ok HR3.out ht; clear ht) | (obtain ⟨rfl, hg3⟩ := tells_inv_no HR3.out ht; clear ht)))
          all_goals (try simp only [beq_iff_eq, beq_eq_false_iff_ne, ne_eq] at *)
          all_goals first
            | (go_ret2
               refine tells2_ok ?_ (gb_trans hg1 hg2) (by rfl) hrd2
               rw [ER.out]; unfold rEsc
               first | rw [if_pos (by omega)] | rw [if_neg (by omega), if_pos (by omega)] | rw [if_neg (by omega), if_neg (by omega), if_pos (by omega)] | rw [if_neg (by omega), if_neg (by omega), if_neg (by omega), if_pos (by omega)])
            | (go_ret2
               refine tells2_ok ?_ (gb_trans (gb_trans hg1 hg2) hg3) (by rfl) hrd3
               rw [ER.out]; unfold rEsc
               rw [if_neg (by omega), if_neg (by omega), if_neg (by omega), if_neg (by omega), if_pos (by omega), HR3.out])
            | (refine ⟨rfl, tells2_no ?_ (gb_trans (gb_trans hg1 hg2) hg3) rfl⟩
               rw [ER.out]; unfold rEsc
               rw [if_neg (by omega), if_neg (by omega), if_neg (by omega), if_neg (by omega), if_pos (by omega), HR3.out])
            | (refine ⟨rfl, tells2_no ?_ (gb_trans hg1 hg2) rfl⟩
               rw [ER.out]; unfold rEsc
               rw [if_neg (by omega), if_neg (by omega), if_neg (by omega), if_neg (by omega), if_neg (by omega)])
      · have HR2 := Aside0.mk hr2
        have er : rOne s a = .error 9 := by
          unfold rOne; rw [HR1.out]; simp only; rw [if_neg (by decide), if_neg (by decide), if_neg (by decide), if_neg (by decide), HR2.out]
        have ER := Aside0.mk er
        clear hr2 er
        go_enter Try.func26, Try.ntmps26
        go_wp2_with (first | (go_at_call 35; (with_reducible refine H.out.mono ?_); rintro e w1 ht; obtain ⟨rfl, hg1, hrd⟩ := tells_inv_ok HR1.out ht; clear ht) | (go_at_call 35; (with_reducible refine (HN.out _ hrd).mono ?_); rintro e w2 ht; obtain ⟨rfl, hg2⟩ := tells_inv_no HR2.out ht; clear ht))
        exact ⟨rfl, tells2_no ER.out (gb_trans hg1 hg2) rfl⟩
    · have e92 : (c == 92) = false := beq_eq_false_iff_ne.mpr hesc
      have er : rOne s a = if c = 34 then .ok (c, true, ((a + 1 : Nat) : Int)) else if c < 32 then .error 3 else if c > 126 then .error 3 else .ok (c, false, ((a + 1 : Nat) : Int)) := by
        unfold rOne; rw [HR1.out]; simp only; rw [if_pos hesc]
      have ER := Aside0.mk er
      have HE := Aside0.mk hesc
      clear er hesc
      go_enter Try.func26, Try.ntmps26
      go_wp2_with (first | (go_at_call 35; (with_reducible refine H.out.mono ?_); rintro e w1 ht; obtain ⟨rfl, hg1, hrd⟩ := tells_inv_ok HR1.out ht; clear ht))
      all_goals (try simp only [beq_iff_eq, beq_eq_false_iff_ne, ne_eq] at *)
      all_goals first
        | (go_ret2
           refine tells2_ok ?_ hg1 (by rfl) hrd
           rw [ER.out]
           first | rw [if_pos (by omega)] | rw [if_neg (by omega), if_neg (by omega), if_neg (by omega)])
        | (refine ⟨rfl, tells2_no ?_ hg1 rfl⟩
           rw [ER.out]
           first | rw [if_neg (by omega), if_pos (by omega)] | rw [if_neg (by omega), if_neg (by omega), if_pos (by omega)])
  · have HR := Aside0.mk hr
    have er : rOne s a = .error 9 := by unfold rOne; rw [HR.out]
    have ER := Aside0.mk er
    clear h hr er
    go_enter Try.func26, Try.ntmps26
    go_wp2_with (first | (go_at_call 35; (with_reducible refine H.out.mono ?_); rintro e w1 ht; obtain ⟨rfl, hg1⟩ := tells_inv_no HR.out ht; clear ht))
    exact ⟨rfl, tells2_no ER.out hg1 rfl⟩


/-- the three results' variables, at blocks h, h + 1, h + 2 -/
structure Out3 (w : World) (h : Nat) (o : ByteArray) (n k : Int) : Prop where
  a : w.heap[h]? = some (.cells #[.string o] 9 (0, 0))
  b : w.heap[h + 1]? = some (.cells #[.int .i64 n] 3 (0, 0))
  c : w.heap[h + 2]? = some (.cells #[.int .i64 k] 23 (0, 0))
theorem Out3.sets {w : World} {h : Nat} {o : ByteArray} {n k : Int} (H : Out3 w h o n k) (o' : ByteArray) (n' k' : Int) :
    Out3 (((w.setCell ⟨h, 0, none⟩ (.string o')).setCell ⟨h + 1, 0, none⟩ (.int .i64 n')).setCell ⟨h + 2, 0, none⟩ (.int .i64 k')) h o' n' k' := by
  constructor
  · exact blk_far (blk_far (by simpa using blk_set H.a 0 (.string o')) (by simp) _) (by simp) _
  · exact blk_far (by simpa using blk_set (blk_far H.b (by simp) (.string o')) 0 (.int .i64 n')) (by simp) _
  · simpa using blk_set (blk_far (blk_far H.c (by simp) (.string o')) (by simp) (.int .i64 n')) 0 (.int .i64 k')
def CatchPost (h : Nat) (k : Int) (w : World) (older : List PanicEntry) (e : Ending) (u' : FrameMode) (w' : World) : Prop :=
  e = .returned (.tuple #[]) ∧ u' = .panicking ({ v := .iface 23 (.int .i64 k), recovered := true } :: older) ∧ Out3 w' h ⟨#[]⟩ 0 k ∧ Below h w w'

set_option maxHeartbeats 1000000 in
theorem catch_panicking (h : Nat) (o : ByteArray) (n k0 k : Int) (older : List PanicEntry) (w : World) (H : Out3 w h o n k0) :
    CallsD Try.prog 25 #[.pointer (some ⟨h, 0, none⟩), .pointer (some ⟨h + 1, 0, none⟩), .pointer (some ⟨h + 2, 0, none⟩)] (.panicking ({ v := .iface 23 (.int .i64 k), recovered := false } :: older)) w (CatchPost h k w older) := by
  refine callsD_of_wpS Try.func25 rfl fun c₀ cs hu => ?_
  have a0 : w.cell? ⟨h, 0, none⟩ = some (.string o) := (blk_cell H.a 0).trans rfl
  have b0 : w.cell? ⟨h + 1, 0, none⟩ = some (.int .i64 n) := (blk_cell H.b 0).trans rfl
  have d0 : w.cell? ⟨h + 2, 0, none⟩ = some (.int .i64 k0) := (blk_cell H.c 0).trans rfl
  have fa := blk_frozen H.a 0
  have fb := blk_frozen H.b 0
  have fd := blk_frozen H.c 0
  have HH := Aside0.mk H
  clear H
  repeat (first | apply wpS_seq | (apply wpS_region; simp [wpOpsS, go_sem, recoverD, hu, Try.ntmps25, Exit.thenS]))
  refine wpS_cond (t := true) (by simp [Act.eval, Array.replicate]) ?_
  simp only [if_true]
  refine wpS_of_wp ?_
  rw [show (#[Value.pointer (some ⟨h, 0, none⟩), Value.pointer (some ⟨h + 1, 0, none⟩), Value.pointer (some ⟨h + 2, 0, none⟩)] ++
          ((((Array.replicate 6 undef).setIfInBounds 1 (Value.iface 23 (Value.int IntKind.i64 k))).setIfInBounds 0 (Value.iface 23 (Value.int IntKind.i64 k))).setIfInBounds 2 (Value.iface 23 (Value.int IntKind.i64 k))).setIfInBounds 3 (Value.bool true)) =
      #[Value.pointer (some ⟨h, 0, none⟩), Value.pointer (some ⟨h + 1, 0, none⟩), Value.pointer (some ⟨h + 2, 0, none⟩), Value.iface 23 (Value.int IntKind.i64 k), Value.iface 23 (Value.int IntKind.i64 k), Value.iface 23 (Value.int IntKind.i64 k), Value.bool true, undef, undef] from rfl]
  have ta : ∀ w : World, (Instr.typeAssert (.iface 23 (.int .i64 k)) 20 23 false).run Try.prog w = .ok (.int .i64 k) w := fun w => by kernel_rfl
  go_region
  have fin : CatchPost h k w older (.returned (.tuple #[])) (.panicking ({ v := .iface 23 (.int .i64 k), recovered := true } :: older))
      (((w.setCell ⟨h, 0, none⟩ (.string ⟨#[]⟩)).setCell ⟨h + 1, 0, none⟩ (.int .i64 0)).setCell ⟨h + 2, 0, none⟩ (.int .i64 k)).drew := by
    have hs := HH.out.sets ⟨#[]⟩ 0 k
    exact ⟨rfl, rfl, ⟨hs.a, hs.b, hs.c⟩, ((((Below.refl h w).setCell (p := ⟨h, 0, none⟩) (Nat.le_refl _) _).setCell (p := ⟨h + 1, 0, none⟩) (Nat.le_succ _) _).setCell (p := ⟨h + 2, 0, none⟩) (show h ≤ h + 2 by omega) _).drew⟩
  simp [bodyPostS, results, Try.results25]
  exact fin

theorem catch_idle (h : Nat) (w : World) :
    CallsD Try.prog 25 #[.pointer (some ⟨h, 0, none⟩), .pointer (some ⟨h + 1, 0, none⟩), .pointer (some ⟨h + 2, 0, none⟩)] .returning w fun e u' w' => e = .returned (.tuple #[]) ∧ u' = .returning ∧ w' = w := by
  refine callsD_of_wpS Try.func25 rfl fun c₀ cs hu => ?_
  repeat (first | apply wpS_seq | (apply wpS_region; simp [wpOpsS, go_sem, recoverD, hu, Try.ntmps25, Exit.thenS]))
  refine wpS_cond (t := false) (by simp [Act.eval, Array.replicate]) ?_
  simp only [Bool.false_eq_true, if_false]
  refine wpS_of_wp (wp_skip ?_)
  cases c₀
  simp_all [bodyPostS, results, Try.results25]

def unq : Nat → ByteArray → Int → List Int → Except Int (List Int × Int)
  | 0, _, _, _ => .error 0
  | k + 1, s, a, acc => match rOne s a with
    | .error e => .error e
    | .ok (c, true, a') => .ok (acc, a')
    | .ok (c, false, a') => unq k s a' (acc ++ [c])
theorem rOne_cases (s : ByteArray) (a : Nat) : (∃ (c : Int) (b : Bool) (a2 : Nat), 0 ≤ c ∧ c ≤ 255 ∧ a < a2 ∧ a2 ≤ s.size ∧ rOne s a = .ok (c, b, (a2 : Int))) ∨ (∃ k, rOne s a = .error k) := by
  unfold rOne
  rcases rNext_cases s a with ⟨hlt, hr⟩ | ⟨hge, hr⟩
  · rw [hr]
    simp only
    have hb := bt_range s a
    by_cases h1 : bt s a = 34
    · left; exact ⟨bt s a, true, a + 1, hb.1, hb.2, by omega, by omega, by rw [if_pos h1]⟩
    rw [if_neg h1]
    by_cases h2 : bt s a < 32
    · right; exact ⟨3, by rw [if_pos h2]⟩
    rw [if_neg h2]
    by_cases h3 : bt s a > 126
    · right; exact ⟨3, by rw [if_pos h3]⟩
    rw [if_neg h3]
    by_cases h4 : bt s a ≠ 92
    · left; exact ⟨bt s a, false, a + 1, hb.1, hb.2, by omega, by omega, by rw [if_pos h4]⟩
    rw [if_neg h4]
    rcases rNext_cases s (a + 1) with ⟨hlt2, hr2⟩ | ⟨hge2, hr2⟩
    · rw [hr2]
      simp only
      have hb2 := bt_range s ((a + 1 : Nat) : Int)
      unfold rEsc
      by_cases g1 : bt s ((a + 1 : Nat) : Int) = 34
      · left; exact ⟨bt s ((a + 1 : Nat) : Int), false, a + 1 + 1, hb2.1, hb2.2, by omega, by omega, by rw [if_pos g1]⟩
      rw [if_neg g1]
      by_cases g2 : bt s ((a + 1 : Nat) : Int) = 92
      · left; exact ⟨bt s ((a + 1 : Nat) : Int), false, a + 1 + 1, hb2.1, hb2.2, by omega, by omega, by rw [if_pos g2]⟩
      rw [if_neg g2]
      by_cases g3 : bt s ((a + 1 : Nat) : Int) = 110
      · left; exact ⟨10, false, a + 1 + 1, by omega, by omega, by omega, by omega, by rw [if_pos g3]⟩
      rw [if_neg g3]
      by_cases g4 : bt s ((a + 1 : Nat) : Int) = 116
      · left; exact ⟨9, false, a + 1 + 1, by omega, by omega, by omega, by omega, by rw [if_pos g4]⟩
      rw [if_neg g4]
      by_cases g5 : bt s ((a + 1 : Nat) : Int) = 120
      · rw [if_pos g5]
        rcases rSpecial_cases s (a + 1 + 1) with ⟨d, a3, h5, h6, h7, h8, hr3⟩ | ⟨k, hr3⟩
        · left; exact ⟨d, false, a3, h5, h6, by omega, h8, by rw [hr3]⟩
        · right; exact ⟨k, by rw [hr3]⟩
      · right; exact ⟨3, by rw [if_neg g5]⟩
    · right; exact ⟨9, by rw [hr2]⟩
  · right; exact ⟨9, by rw [hr]⟩
def escape_Unquote.f (a0 : ByteArray) : Option (ByteArray × Int × Int) :=
  if a0.size > 1000000 then none else
  if 0 < a0.size ∧ bt a0 0 = 34 then (match unq (a0.size + 1) a0 1 [] with | .ok (l, a) => some (strOfNums l, a, 0) | .error k => some (⟨#[]⟩, 0, k)) else some (⟨#[]⟩, 0, 3)
theorem prefix_one (s : ByteArray) : strings_HasPrefix.f s ⟨#[34]⟩ = some (decide (0 < s.size ∧ bt s 0 = 34)) := by
  unfold strings_HasPrefix.f stringslite_HasPrefix.f
  have e1 : (⟨#[34]⟩ : ByteArray).size = 1 := rfl
  rw [e1]
  by_cases h : 0 < s.size
  · have hb : bt s 0 = ((s[0]'h).toNat : Int) := by simp [bt, h]
    rw [if_pos (by omega), if_pos (by omega), if_pos (by omega), Option.bind_some]
    congr 1
    have e2 : (s.extract 0 ((1 : Nat) : Int).toNat).toList = [s[0]'h] := by
      rw [ByteArray.toList_eq]
      have : ((1 : Nat) : Int).toNat = 1 := rfl
      rw [this]
      apply List.ext_getElem
      · simp; have : s.data.size = s.size := rfl; omega
      · intro j h1 h2
        simp at h2
        subst h2
        simp; rfl
    have e3 : (⟨#[34]⟩ : ByteArray).toList = [34] := by rw [ByteArray.toList_eq]
    rw [e2, e3, hb]
    rw [Bool.eq_iff_iff]
    simp only [beq_iff_eq, decide_eq_true_eq, List.cons.injEq, and_true]
    constructor
    · intro h1; rw [h1]; exact ⟨h, rfl⟩
    · rintro ⟨_, h1⟩
      apply UInt8.toNat_inj.mp
      have : (34 : UInt8).toNat = 34 := rfl
      omega
  · rw [if_neg (by omega), Option.bind_some]
    simp; omega

theorem escape_info5 : (Try.prog.info? 5).map (fun i => (i.zero, i.size, i.bytes)) = some (some (.int .u8 0), 1, 1) := by kernel_rfl
def UnqPost (w : World) (r1 : ByteArray) (r2 r3 : Int) (e : Ending) (w' : World) : Prop :=
  e = .returned (.tuple #[.string r1, .int .i64 r2, .int .i64 r3]) ∧ Below w.heap.size w w'
/-- read at the end -/
theorem out3_leaves {w0 w : World} {h : Nat} {o : ByteArray} {n k : Int} {tmps : Array Value} (H : Out3 w h o n k) (hB : Below w0.heap.size w0 w)
    (ht2 : tmps[2]?.getD undef = .pointer (some ⟨h, 0, none⟩)) (ht3 : tmps[3]?.getD undef = .pointer (some ⟨h + 1, 0, none⟩)) (ht4 : tmps[4]?.getD undef = .pointer (some ⟨h + 2, 0, none⟩)) :
    Leaves Try.prog Try.f10 tmps (UnqPost w0 o n k) [] .returning w := by
  have a0 : w.cell? ⟨h, 0, none⟩ = some (.string o) := (blk_cell H.a 0).trans rfl
  have b0 : w.cell? ⟨h + 1, 0, none⟩ = some (.int .i64 n) := (blk_cell H.b 0).trans rfl
  have d0 : w.cell? ⟨h + 2, 0, none⟩ = some (.int .i64 k) := (blk_cell H.c 0).trans rfl
  refine ⟨.tuple #[.string o, .int .i64 n, .int .i64 k], ?_, rfl, hB⟩
  simp [results, Try.results10, go_sem, ht2, ht3, ht4, a0, b0, d0]

theorem out3_base (w : World) : Out3 (((w.alloc (.cells #[.string ⟨#[]⟩] 9)).alloc (.cells #[.int .i64 0] 3)).alloc (.cells #[.int .i64 0] 23)) w.heap.size ⟨#[]⟩ 0 0 := by
  constructor
  · exact blk_alloc (blk_alloc (blk_new w _) _) _
  · have := blk_alloc (blk_new (w.alloc (.cells #[.string ⟨#[]⟩] 9)) (.cells #[.int .i64 0] 3)) (.cells #[.int .i64 0] 23)
    simpa using this
  · have := blk_new ((w.alloc (.cells #[.string ⟨#[]⟩] 9)).alloc (.cells #[.int .i64 0] 3)) (.cells #[.int .i64 0] 23)
    simpa using this
theorem out3_drewN {w : World} {h : Nat} {o : ByteArray} {n k : Int} (H : Out3 w h o n k) (m : Nat) : Out3 (w.drewN m) h o n k := ⟨H.a, H.b, H.c⟩
theorem out3_grown {w w1 : World} {h : Nat} {o : ByteArray} {n k : Int} {r : Option Nat} (H : Out3 w h o n k) (hg : w.grownBy w1 r) (h0 : some h ≠ r) (h1 : some (h + 1) ≠ r) (h2 : some (h + 2) ≠ r) : Out3 w1 h o n k :=
  ⟨blk_grown H.a hg h0, blk_grown H.b hg h1, blk_grown H.c hg h2⟩
theorem below_base (w : World) : Below w.heap.size w (((w.alloc (.cells #[.string ⟨#[]⟩] 9)).alloc (.cells #[.int .i64 0] 3)).alloc (.cells #[.int .i64 0] 23)) := below_alloc (below_alloc (below_alloc (Below.refl _ _) _) _) _

set_option maxHeartbeats 2000000 in
set_option maxRecDepth 100000 in
theorem unquote_no (s : ByteArray) (w : World) (h : ¬ (0 < s.size ∧ bt s 0 = 34)) : Calls Try.prog 10 #[.string s] w (UnqPost w ⟨#[]⟩ 0 3) := by
  have HP := Aside0.mk (prefix_one s)
  have HD := Aside0.mk (decide_eq_false h)
  clear h
  go_enter_defers Try.func10, Try.ntmps10
  go_wp2_with (go_at_call 24; (with_reducible refine (strings_HasPrefix.calls s ⟨#[34]⟩ false _ (by rw [HP.out, HD.out])).mono ?_); rintro e w' ⟨rfl, ⟨nd, rfl⟩⟩)
  have hs := Out3.sets (out3_drewN (out3_base w) nd) ⟨#[]⟩ 0 3
  exact out3_leaves (h := w.heap.size) hs (((pw_below_drewN (below_base w) nd).setCell (p := ⟨w.heap.size, 0, none⟩) (Nat.le_refl _) _ |>.setCell (p := ⟨w.heap.size + 1, 0, none⟩) (Nat.le_succ _) _).setCell (p := ⟨w.heap.size + 2, 0, none⟩) (show w.heap.size ≤ w.heap.size + 2 by omega) _) rfl rfl rfl

set_option maxHeartbeats 4000000 in
set_option maxRecDepth 100000 in
theorem unquote_yes (s : ByteArray) (w : World) (h : 0 < s.size ∧ bt s 0 = 34) (hs : s.size ≤ 1000000) (r1 : ByteArray) (r2 r3 : Int)
    (hok : ∀ l a, unq (s.size + 1) s 1 [] = .ok (l, a) → r1 = strOfNums l ∧ r2 = a ∧ r3 = 0) (hno : ∀ k, unq (s.size + 1) s 1 [] = .error k → r1 = ⟨#[]⟩ ∧ r2 = 0 ∧ r3 = k) :
    Calls Try.prog 10 #[.string s] w (UnqPost w r1 r2 r3) := by
  have HP := Aside0.mk (prefix_one s)
  have HD := Aside0.mk (decide_eq_true h)
  have HOK := Aside0.mk hok
  have HNO := Aside0.mk hno
  have HZ := Aside0.mk hs
  have HZ1 := Aside0.mk h.1
  clear h hok hno hs
  have hmf : ∀ (fn : Fn) (first cap : Array Value) (w : World), (Instr.makeFunc fn first cap).run Try.prog w = .ok (.func fn first cap) w := fun _ _ _ _ => rfl
  go_enter_defers Try.func10, Try.ntmps10
  go_wp2_with (go_at_call 24; (with_reducible refine (strings_HasPrefix.calls s ⟨#[34]⟩ true _ (by rw [HP.out, HD.out])).mono ?_); rintro e w' ⟨rfl, ⟨nd, rfl⟩⟩)
  go_loopg [6, 7, 8] (s.size + 1) (fun kq v6 v7 v8 w' => ∃ (a : Nat) (acc : List Int), Aside0 (a ≤ s.size) ∧ Aside0 (s.size + 1 ≤ kq + a) ∧ Aside0 (acc.length ≤ a) ∧ Aside0 (unq kq s a acc = unq (s.size + 1) s 1 []) ∧
    Aside0 (Rd w' (w.heap.size + 1 + 1 + 1) s a) ∧ Aside0 (Out3 w' w.heap.size ⟨#[]⟩ 0 0) ∧ Aside0 (Kd.R (Kd.int .u8) 5 w' w.heap.size (fun _ => True) v6 acc) ∧ Aside0 (Below w.heap.size w w'))
  case atStart =>
    refine ⟨1, [], ⟨by have := HZ1.out; omega⟩, ⟨by omega⟩, ⟨by simp⟩, ⟨rfl⟩, ⟨?_⟩, ⟨?_⟩, ⟨Kd.R_nil _ _ _ _ _⟩, ⟨below_alloc (pw_below_drewN (below_base w) nd) _⟩⟩
    · have := blk_new ((((w.alloc (.cells #[.string ⟨#[]⟩] 9)).alloc (.cells #[.int .i64 0] 3)).alloc (.cells #[.int .i64 0] 23)).drewN nd) (.cells #[.string s, .int .i64 1] 44)
      have e : ((((w.alloc (.cells #[.string ⟨#[]⟩] 9)).alloc (.cells #[.int .i64 0] 3)).alloc (.cells #[.int .i64 0] 23)).drewN nd).heap.size = w.heap.size + 1 + 1 + 1 := by simp
      rw [e] at this
      exact this
    · have h3 := out3_drewN (out3_base w) nd
      exact ⟨blk_alloc h3.a _, blk_alloc h3.b _, blk_alloc h3.c _⟩
  case round =>
    obtain ⟨a, acc, HA, HK, HL, HU, HR, HO, HB, HW⟩ := hrel
    obtain ⟨k, rfl⟩ : ∃ k, gk = k + 1 := ⟨gk - 1, by have := HA.out; have := HK.out; omega⟩
    have H1 := Aside0.mk (one_any wr (w.heap.size + 1 + 1 + 1) s a HR.out HZ.out HA.out)
    have HBn := Aside0.mk (Kd.R_types HB.out HR.out (by decide))
    rcases rOne_cases s a with ⟨c, b, a2, hc0, hc1, hlt, hle, hr⟩ | ⟨k2, hr⟩
    · have HR1 := Aside0.mk hr
      cases b
      · have HU2 : Aside0 (unq k s a2 (acc ++ [c]) = unq (s.size + 1) s 1 []) := ⟨by rw [← HU.out]; conv => rhs; unfold unq; rw [hr]⟩
        clear hr
        go_wp2_with (first
          | (go_at_call 26; (with_reducible refine H1.out.mono ?_); rintro e w1 ht; obtain ⟨rfl, hg1, hrd⟩ := tells2_inv_ok HR1.out ht; clear ht)
          | (at_builtin; refine Kd.R_append (Kd.int .u8) (w0 := w) w.heap.size (by rfl) (.tmp 28) (.tmp 30) 45 5 (.int .u8 0) 1 rfl Try.underlying45 escape_info5 rfl (by decide) (by decide) u6 acc c [.int .u8 c] (fun _ => True) (fun _ => False) (by rfl) (by rfl) (by rfl) (fun _ hk => hk.elim) (fun _ _ => trivial) (Kd.R_mono (Kd.R_grown HBn.out hg1 (fun k hk e => hk.2 (by injection e))) (fun _ _ => trivial)) (HW.out.grown hg1 HW.out.size (fun k hk => by injection hk with hk; omega)) (Nat.le_trans HW.out.size hg1.size) (by have := HL.out; have := HA.out; have := HZ.out; omega) ?_; intro v1 w2 ho2 hb2 hg2 hat2))
        have HRe : Aside0 (Rd w2 (w.heap.size + 1 + 1 + 1) s a2) := ⟨blk_grown hrd hg2 (Kd.R_ne HB.out HR.out (by decide))⟩
        go_roundg k
        case measure => omega
        case rel => exact ⟨a2, acc ++ [c], ⟨hle⟩, ⟨by have := HK.out; omega⟩, ⟨by have := HL.out; simp; omega⟩, HU2, HRe, ⟨out3_grown (out3_grown HO.out hg1 (by simp <;> omega) (by simp) (by simp)) hg2 (Kd.R_ne HB.out HO.out.a (by decide)) (Kd.R_ne HB.out HO.out.b (by decide)) (Kd.R_ne HB.out HO.out.c (by decide))⟩, ⟨ho2⟩, ⟨hb2⟩⟩
      · have HU2 : Aside0 (unq (s.size + 1) s 1 [] = .ok (acc, (a2 : Int))) := ⟨by rw [← HU.out]; unfold unq; rw [hr]⟩
        obtain ⟨e1, e2, e3⟩ := HOK.out acc a2 HU2.out
        subst e1; subst e2; subst e3
        clear hr HNO HOK
        obtain ⟨A1, k1, hu6, hk1, ht1⟩ := Kd.R_reads HBn.out
        subst hu6
        go_wp2_with (first
          | (go_at_call 26; (with_reducible refine H1.out.mono ?_); rintro e w1 ht; obtain ⟨rfl, hg1, hrd⟩ := tells2_inv_ok HR1.out ht; clear ht))
        have HO1 := Aside0.mk (out3_grown HO.out hg1 (by simp <;> omega) (by simp) (by simp))
        have HB1 := Aside0.mk (Kd.R_grown HBn.out hg1 (fun k hk e => hk.2 (by injection e)))
        have HW1 := Aside0.mk (HW.out.grown hg1 HW.out.size (fun k hk => by injection hk with hk; omega))
        have k1' : w1.cell? ⟨w.heap.size + 1 + 1 + 1, 1, none⟩ = some (.int .i64 a2) := (blk_cell hrd 1).trans rfl
        have ka : w1.cell? ⟨w.heap.size, 0, none⟩ = some (.string ⟨#[]⟩) := (blk_cell HO1.out.a 0).trans rfl
        have kb : w1.cell? ⟨w.heap.size + 1, 0, none⟩ = some (.int .i64 0) := (blk_cell HO1.out.b 0).trans rfl
        have kc : w1.cell? ⟨w.heap.size + 1 + 1, 0, none⟩ = some (.int .i64 0) := (blk_cell HO1.out.c 0).trans rfl
        have fa := blk_frozen HO1.out.a 0
        have fb := blk_frozen HO1.out.b 0
        have fc : w1.frozen? ⟨w.heap.size + 1 + 1, 0, none⟩ = false := blk_frozen HO1.out.c 0
        have CV : Aside0 (∀ W : World, Kd.R (Kd.int .u8) 5 W w.heap.size (fun _ => True) (.slice A1 acc.length k1) acc → (convert 45 9 (.slice A1 acc.length k1)).run Try.prog W = .ok (.string (strOfNums acc)) W) := ⟨fun W hR => by
          obtain ⟨_, _, e_, _, hr_⟩ := Kd.R_reads hR
          cases e_
          exact Kd.C_string Try.underlying45 Try.underlying5 Try.underlying9 hr_⟩
        have hr1 : Kd.R (Kd.int .u8) 5 w1 w.heap.size (fun _ => True) (.slice A1 acc.length k1) acc := Kd.R_mono HB1.out (fun _ _ => trivial)
        have hr2 := Kd.R_set hr1 HO1.out.a (by decide) 0 (.string (strOfNums acc))
        have hb2 := blk_far HO1.out.b (p := ⟨w.heap.size, 0, none⟩) (by simp) (.string (strOfNums acc))
        have hr3 := Kd.R_set hr2 hb2 (by decide) 0 (.int .i64 a2)
        have hc2 := blk_far (blk_far HO1.out.c (p := ⟨w.heap.size, 0, none⟩) (by simp) (.string (strOfNums acc))) (p := ⟨w.heap.size + 1, 0, none⟩) (by simp) (.int .i64 a2)
        have hr4 := Kd.R_set hr3 hc2 (by decide) 0 (.int .i64 0)
        have R1 := Aside0.mk (CV.out _ (Kd.R_drew hr1))
        have R2 := Aside0.mk (CV.out _ (Kd.R_drew hr2))
        have R3 := Aside0.mk (CV.out _ (Kd.R_drew hr3))
        have R4 := Aside0.mk (CV.out _ (Kd.R_drew hr4))
        have b2 := blk_far hrd (p := ⟨w.heap.size, 0, none⟩) (by simp <;> omega) (.string (strOfNums acc))
        have b3 := blk_far b2 (p := ⟨w.heap.size + 1, 0, none⟩) (by simp <;> omega) (.int .i64 a2)
        have b4 := blk_far b3 (p := ⟨w.heap.size + 1 + 1, 0, none⟩) (by simp <;> omega) (.int .i64 0)
        have D1 := Aside0.mk (show w1.drew.cell? ⟨w.heap.size + 1 + 1 + 1, 1, none⟩ = some (.int .i64 a2) from k1')
        have D2 := Aside0.mk ((blk_cell (blk_drew b2) 1).trans (show _ = some (.int .i64 a2) from rfl))
        have D3 := Aside0.mk ((blk_cell (blk_drew b3) 1).trans (show _ = some (.int .i64 a2) from rfl))
        have D4 := Aside0.mk ((blk_cell (blk_drew b4) 1).trans (show _ = some (.int .i64 a2) from rfl))
        clear hg1 ht1 hk1 hr1 hr2 hr3 hr4 hb2 hc2 b2 b3 b4
        have HRD := Aside0.mk hrd
        clear hrd
        go_region_held3 (fun w' => w'.cell? ⟨w.heap.size + 1 + 1 + 1, 1, none⟩ = some (.int .i64 a2) ∧ (convert 45 9 (.slice A1 acc.length k1)).run Try.prog w' = .ok (.string (strOfNums acc)) w')
          (first
            | exact ⟨D1.out, R1.out⟩
            | exact ⟨D2.out, R2.out⟩
            | exact ⟨D3.out, R3.out⟩
            | exact ⟨D4.out, R4.out⟩) (fail)
        go_wp2
        have hs3 := HO1.out.sets (strOfNums acc) a2 0
        refine leaves_cons (f := 25) (args := #[.pointer (some ⟨w.heap.size, 0, none⟩), .pointer (some ⟨w.heap.size + 1, 0, none⟩), .pointer (some ⟨w.heap.size + 1 + 1, 0, none⟩)]) (by simp) (by simp [go_sem]) ?_
        refine (catch_idle w.heap.size _).mono ?_
        rintro e u' w2 ⟨rfl, rfl, rfl⟩
        have hset : settle .returning = .returning := by simp [settle]
        show Leaves Try.prog Try.f10 _ (UnqPost w (strOfNums acc) a2 0) [] (settle .returning) _
        rw [hset]
        exact out3_leaves (h := w.heap.size) ⟨blk_drew hs3.a, blk_drew hs3.b, blk_drew hs3.c⟩ (((((HW1.out.setCell (p := ⟨w.heap.size, 0, none⟩) (Nat.le_refl _) _).setCell (p := ⟨w.heap.size + 1, 0, none⟩) (Nat.le_succ _) _).setCell (p := ⟨w.heap.size + 2, 0, none⟩) (show w.heap.size ≤ w.heap.size + 2 by omega) _).drew)) rfl rfl rfl
    · have HR1 := Aside0.mk hr
      have HU2 : Aside0 (unq (s.size + 1) s 1 [] = .error k2) := ⟨by rw [← HU.out]; unfold unq; rw [hr]⟩
      obtain ⟨e1, e2, e3⟩ := HNO.out k2 HU2.out
      subst e1; subst e2; subst e3
      clear hr HNO HOK
      go_wp2_with (first
          | (go_at_call 26; (with_reducible refine H1.out.mono ?_); rintro e w1 ht; obtain ⟨rfl, hg1⟩ := tells2_inv_no HR1.out ht; clear ht))
      have HO1 := out3_grown HO.out hg1 (by simp <;> omega) (by simp) (by simp)
      have HW1 := HW.out.grown hg1 HW.out.size (fun k hk => by injection hk with hk; omega)
      refine leaves_cons (f := 25) (args := #[.pointer (some ⟨w.heap.size, 0, none⟩), .pointer (some ⟨w.heap.size + 1, 0, none⟩), .pointer (some ⟨w.heap.size + 1 + 1, 0, none⟩)]) (by simp) (by simp [go_sem]) ?_
      refine (catch_panicking w.heap.size ⟨#[]⟩ 0 0 r3 [] _ HO1).mono ?_
      rintro e u' w2 ⟨rfl, rfl, ho2, hb2⟩
      have hset : settle (.panicking ({ v := .iface 23 (.int .i64 r3), recovered := true } :: [])) = .returning := by simp [settle]
      show Leaves Try.prog Try.f10 _ (UnqPost w ⟨#[]⟩ 0 r3) [] (settle (.panicking ({ v := .iface 23 (.int .i64 r3), recovered := true } :: []))) w2
      rw [hset]
      exact out3_leaves ho2 (HW1.trans hb2) rfl rfl rfl

theorem escape_Unquote.calls (a0 : ByteArray) (r1 : ByteArray) (r2 : Int) (r3 : Int) (w : World) (h : escape_Unquote.f a0 = some (r1, r2, r3)) :
    Calls Try.prog 10 #[.string a0] w fun e w' => e = .returned (.tuple #[.string r1, .int .i64 r2, .int .i64 r3]) ∧ Below w.heap.size w w' := by
  unfold escape_Unquote.f at h
  by_cases hz : a0.size > 1000000
  · rw [if_pos hz] at h; exact absurd h (by simp)
  rw [if_neg hz] at h
  by_cases hp : 0 < a0.size ∧ bt a0 0 = 34
  · rw [if_pos hp] at h
    refine unquote_yes a0 w hp (by omega) r1 r2 r3 (fun l a hu => ?_) (fun k hu => ?_)
    · rw [hu] at h; have g := Option.some.inj h; simp only [Prod.mk.injEq] at g; exact ⟨g.1.symm, g.2.1.symm, g.2.2.symm⟩
    · rw [hu] at h; have g := Option.some.inj h; simp only [Prod.mk.injEq] at g; exact ⟨g.1.symm, g.2.1.symm, g.2.2.symm⟩
  · rw [if_neg hp] at h
    have g := Option.some.inj h
    simp only [Prod.mk.injEq] at g
    obtain ⟨g1, g2, g3⟩ := g
    subst g1; subst g2; subst g3
    exact unquote_no a0 w hp

/-! ### escape_visible: function 39 -/
def escape_visible.f (a0 : Int) : Option (Bool) := if a0 > 32 then (some (decide (a0 ≤ 126))) else (some false)
set_option maxHeartbeats 8000000 in
set_option maxRecDepth 100000 in
theorem escape_visible.calls (a0 : Int) (r : Bool) (w : World) (h : escape_visible.f a0 = some r) :
    Calls Try.prog 39 #[.int .u8 a0] w fun e w' => e = .returned (.bool r) ∧ Drawn0 w w' := by
  have H : (if a0 > 32 then (some (decide (a0 ≤ 126))) else (some false)) = some r := h
  clear h
  by_cases c2 : a0 > 32
  · rw [if_pos c2] at H
    have c2b0 : decide (32 < a0) = true := decide_eq_true c2
    clear c2
    obtain rfl := Option.some.inj H
    go_enter Try.func39, Try.ntmps39
    go_wp2
    go_ret
    exact ⟨by first | rfl | (simp; done) | (simp [*]; done), by repeat (first | exact Drawn0.refl _ | apply Drawn0.step)⟩
  · rw [if_neg c2] at H
    have c2b0 : decide (32 < a0) = false := decide_eq_false c2
    clear c2
    obtain rfl := Option.some.inj H
    go_enter Try.func39, Try.ntmps39
    go_wp2
    go_ret
    exact ⟨by first | rfl | (simp; done) | (simp [*]; done), by repeat (first | exact Drawn0.refl _ | apply Drawn0.step)⟩

/-! ### escape_span: function 29 -/
def escape_span.l0 : Nat → ByteArray → Int → Option (Int)
  | 0, _, _ => none
  | k + 1, x0, x2 => if x2 < (x0.size : Int) then (if 0 ≤ x2 then ((escape_visible.f (bt x0 x2)).bind fun t141 => (if t141 = true then (escape_span.l0 k x0 (wrap64 (x2 + 1))) else (some x2))) else (none)) else (some x2)
def escape_span.f (k : Nat) (a0 : ByteArray) : Option (Int) := escape_span.l0 k a0 0
theorem escape_span.mono_l : ∀ k, (∀ y0 y1, LeO (escape_span.l0 k y0 y1) (escape_span.l0 (k + 1) y0 y1))
  | 0 => fun _ _ r h => by simp [escape_span.l0] at h
  | k + 1 => by
    have ih0 := escape_span.mono_l k
    · intro y0 y1
      unfold escape_span.l0
      repeat' first
      | (with_reducible exact ih0 _ _)
      | (with_reducible exact LeO.refl _)
      | (with_reducible exact LeO.none _)
      | (with_reducible refine LeO.ite ?_ ?_)
      | (with_reducible refine LeO.bind ?_ (fun _ => ?_))
      | exact ih0 _ _
      | exact LeO.none _
      | refine LeO.ite ?_ ?_
      | refine LeO.bind ?_ (fun _ => ?_)
theorem escape_span.mono : ∀ a0 k, LeO (escape_span.f k a0) (escape_span.f (k + 1) a0) := by
  intro a0 k
  have ih0 := escape_span.mono_l k
  unfold escape_span.f
  repeat' first
      | (with_reducible exact ih0 _ _)
      | (with_reducible exact LeO.refl _)
      | (with_reducible exact LeO.none _)
      | (with_reducible refine LeO.ite ?_ ?_)
      | (with_reducible refine LeO.bind ?_ (fun _ => ?_))
      | exact ih0 _ _
      | exact LeO.none _
      | refine LeO.ite ?_ ?_
      | refine LeO.bind ?_ (fun _ => ?_)
set_option maxHeartbeats 8000000 in
set_option maxRecDepth 100000 in
theorem escape_span.calls (k : Nat) (a0 : ByteArray) (r : Int) (w : World) (h : escape_span.f k a0 = some r) :
    Calls Try.prog 29 #[.string a0] w fun e w' => e = .returned (.int .i64 r) ∧ Drawn0 w w' := by
  have H : (escape_span.l0 k a0 0) = some r := h
  clear h
  have H' := Aside0.mk H
  clear H
  go_enter Try.func29, Try.ntmps29
  go_wp2
  go_loopg [2] k (fun kq v2 w' => ∃ (x2_1 : Int), v2 = .int .i64 x2_1 ∧ Aside0 (escape_span.l0 kq a0 x2_1 = some r) ∧ Aside0 (kq ≤ k) ∧ Drawn0 w w')
  case atStart => exact ⟨(0), (by first | rfl | (simp; done) | (simp [*]; done)), H', ⟨Nat.le_refl _⟩, by repeat (first | exact Drawn0.refl _ | apply Drawn0.step)⟩
  case round =>
    clear H'
    obtain ⟨x2_1, rfl, HA, HK1, ⟨m1, rfl⟩⟩ := hrel
    cases gk with
    | zero => exact absurd HA.out (by simp [escape_span.l0])
    | succ k1 =>
      have H := HA.out
      clear HA
      simp only [escape_span.l0] at H
      by_cases c2 : x2_1 < (a0.size : Int)
      · rw [if_pos c2] at H
        have c2b0 : decide (x2_1 < (a0.size : Int)) = true := decide_eq_true c2
        clear c2
        by_cases c3 : 0 ≤ x2_1
        · rw [if_pos c3] at H
          have c3b0 : decide (0 ≤ x2_1) = true := decide_eq_true c3
          clear c3
          replace H := Option.bind_eq_some_iff.mp H
          obtain ⟨t141, A50, H⟩ := H
          replace H : (if t141 = true then (escape_span.l0 k1 a0 (wrap64 (x2_1 + 1))) else (some x2_1)) = some r := H
          have A5 := Aside0.mk A50
          clear A50
          by_cases c6 : t141 = true
          · subst c6
            have H1 : (escape_span.l0 k1 a0 (wrap64 (x2_1 + 1))) = some r := by rw [if_pos rfl] at H; exact H
            clear H
            have H := H1
            clear H1
            have H' := Aside0.mk H
            clear H
            have p4 : 0 ≤ (x2_1 : Int) := of_decide_eq_true (by first | (with_reducible assumption) | assumption)
            have q4 : x2_1 < (a0.size : Int) := of_decide_eq_true (by first | (with_reducible assumption) | assumption)
            have hx4 := bt_at a0 x2_1
            replace p4 := eq_true p4
            replace q4 := eq_true q4
            go_wp2_with (first | (go_at_call 39; (with_reducible refine (escape_visible.calls (bt a0 x2_1) true _ A5.out).mono ?_); rintro e w' ⟨rfl, ⟨nd, rfl⟩⟩))
            go_roundg k1
            case measure => have := HK1.out; omega
            case rel => exact ⟨(wrap64 (x2_1 + 1)), (by first | rfl | (simp; done) | (simp [*]; done)), H', ⟨by have := HK1.out; omega⟩, by repeat (first | exact Drawn0.refl _ | apply Drawn0.step)⟩
          · replace c6 := Bool.eq_false_iff.mpr c6
            subst c6
            have H1 : (some x2_1) = some r := by rw [if_neg (show ¬ (false = true) by decide)] at H; exact H
            clear H
            have H := H1
            clear H1
            obtain rfl := Option.some.inj H
            have p4 : 0 ≤ (x2_1 : Int) := of_decide_eq_true (by first | (with_reducible assumption) | assumption)
            have q4 : x2_1 < (a0.size : Int) := of_decide_eq_true (by first | (with_reducible assumption) | assumption)
            have hx4 := bt_at a0 x2_1
            replace p4 := eq_true p4
            replace q4 := eq_true q4
            go_wp2_with (first | (go_at_call 39; (with_reducible refine (escape_visible.calls (bt a0 x2_1) false _ A5.out).mono ?_); rintro e w' ⟨rfl, ⟨nd, rfl⟩⟩))
            go_ret
            exact ⟨by first | rfl | (simp; done) | (simp [*]; done), by repeat (first | exact Drawn0.refl _ | apply Drawn0.step)⟩
        · rw [if_neg c3] at H
          exact absurd H (by simp)
      · rw [if_neg c2] at H
        have c2b0 : decide (x2_1 < (a0.size : Int)) = false := decide_eq_false c2
        clear c2
        obtain rfl := Option.some.inj H
        go_wp2
        go_ret
        exact ⟨by first | rfl | (simp; done) | (simp [*]; done), by repeat (first | exact Drawn0.refl _ | apply Drawn0.step)⟩

/-! ### stringslite_CutPrefix: function 40 -/
def stringslite_CutPrefix.f (a0 : ByteArray) (a1 : ByteArray) : Option (ByteArray × Bool) := (stringslite_HasPrefix.f a0 a1).bind fun t142 => (if t142 = true then (if 0 ≤ (a1.size : Int) then (if (a1.size : Int) ≤ (a0.size : Int) then (some (a0.extract ((a1.size : Int) : Int).toNat a0.size, true)) else (none)) else (none)) else (some (a0, false)))
set_option maxHeartbeats 8000000 in
set_option maxRecDepth 100000 in
theorem stringslite_CutPrefix.calls (a0 : ByteArray) (a1 : ByteArray) (r1 : ByteArray) (r2 : Bool) (w : World) (h : stringslite_CutPrefix.f a0 a1 = some (r1, r2)) :
    Calls Try.prog 40 #[.string a0, .string a1] w fun e w' => e = .returned (.tuple #[.string r1, .bool r2]) ∧ Drawn0 w w' := by
  have H : ((stringslite_HasPrefix.f a0 a1).bind fun t142 => (if t142 = true then (if 0 ≤ (a1.size : Int) then (if (a1.size : Int) ≤ (a0.size : Int) then (some (a0.extract ((a1.size : Int) : Int).toNat a0.size, true)) else (none)) else (none)) else (some (a0, false)))) = some (r1, r2) := h
  clear h
  replace H := Option.bind_eq_some_iff.mp H
  obtain ⟨t142, A30, H⟩ := H
  replace H : (if t142 = true then (if 0 ≤ (a1.size : Int) then (if (a1.size : Int) ≤ (a0.size : Int) then (some (a0.extract ((a1.size : Int) : Int).toNat a0.size, true)) else (none)) else (none)) else (some (a0, false))) = some (r1, r2) := H
  have A3 := Aside0.mk A30
  clear A30
  by_cases c4 : t142 = true
  · subst c4
    have H1 : (if 0 ≤ (a1.size : Int) then (if (a1.size : Int) ≤ (a0.size : Int) then (some (a0.extract ((a1.size : Int) : Int).toNat a0.size, true)) else (none)) else (none)) = some (r1, r2) := by rw [if_pos rfl] at H; exact H
    clear H
    have H := H1
    clear H1
    by_cases c5 : 0 ≤ (a1.size : Int)
    · rw [if_pos c5] at H
      have c5b0 := eq_true c5
      have c5b1 : decide (0 ≤ (a1.size : Int)) = true := decide_eq_true c5
      clear c5
      by_cases c6 : (a1.size : Int) ≤ (a0.size : Int)
      · rw [if_pos c6] at H
        have c6b0 := eq_true c6
        have c6b1 : decide ((a1.size : Int) ≤ (a0.size : Int)) = true := decide_eq_true c6
        clear c6
        simp only [Option.some.injEq, Prod.mk.injEq] at H
        obtain ⟨rfl, rfl⟩ := H
        go_enter Try.func40, Try.ntmps40
        go_wp2_with (first | ((with_reducible refine gate_callee (f := 34) rfl ?_); refine goesL_ (some 8) rfl rfl Try.func34 (by kernel_rfl) rfl #[.string a0, .string a1] rfl (by (try simp only [List.map_toArray, List.map_cons, List.map_nil]); first | done | rfl | (simp only [List.length_drop, List.length_take]; rfl)) ?_; (with_reducible refine (stringslite_HasPrefix.calls a0 a1 true _ A3.out).mono ?_); rintro e w' ⟨rfl, ⟨nd, rfl⟩⟩; refine ⟨_, rfl, ?_⟩))
        go_ret2
        exact ⟨by first | rfl | (simp; done) | (simp [*]; done), by repeat (first | exact Drawn0.refl _ | apply Drawn0.step)⟩
      · rw [if_neg c6] at H
        exact absurd H (by simp)
    · rw [if_neg c5] at H
      exact absurd H (by simp)
  · replace c4 := Bool.eq_false_iff.mpr c4
    subst c4
    have H1 : (some (a0, false)) = some (r1, r2) := by rw [if_neg (show ¬ (false = true) by decide)] at H; exact H
    clear H
    have H := H1
    clear H1
    simp only [Option.some.injEq, Prod.mk.injEq] at H
    obtain ⟨rfl, rfl⟩ := H
    go_enter Try.func40, Try.ntmps40
    go_wp2_with (first | ((with_reducible refine gate_callee (f := 34) rfl ?_); refine goesL_ (some 8) rfl rfl Try.func34 (by kernel_rfl) rfl #[.string a0, .string a1] rfl (by (try simp only [List.map_toArray, List.map_cons, List.map_nil]); first | done | rfl | (simp only [List.length_drop, List.length_take]; rfl)) ?_; (with_reducible refine (stringslite_HasPrefix.calls a0 a1 false _ A3.out).mono ?_); rintro e w' ⟨rfl, ⟨nd, rfl⟩⟩; refine ⟨_, rfl, ?_⟩))
    go_ret2
    exact ⟨by first | rfl | (simp; done) | (simp [*]; done), by repeat (first | exact Drawn0.refl _ | apply Drawn0.step)⟩

/-! ### strings_CutPrefix: function 30 -/
def strings_CutPrefix.f (a0 : ByteArray) (a1 : ByteArray) : Option (ByteArray × Bool) := (stringslite_CutPrefix.f a0 a1).bind fun bt143 => (some (bt143.1, bt143.2))
set_option maxHeartbeats 8000000 in
set_option maxRecDepth 100000 in
theorem strings_CutPrefix.calls (a0 : ByteArray) (a1 : ByteArray) (r1 : ByteArray) (r2 : Bool) (w : World) (h : strings_CutPrefix.f a0 a1 = some (r1, r2)) :
    Calls Try.prog 30 #[.string a0, .string a1] w fun e w' => e = .returned (.tuple #[.string r1, .bool r2]) ∧ Drawn0 w w' := by
  have H : ((stringslite_CutPrefix.f a0 a1).bind fun bt143 => (some (bt143.1, bt143.2))) = some (r1, r2) := h
  clear h
  replace H := Option.bind_eq_some_iff.mp H
  obtain ⟨⟨t143, t144⟩, A30, H⟩ := H
  replace H : (some (t143, t144)) = some (r1, r2) := H
  have A3 := Aside0.mk A30
  clear A30
  simp only [Option.some.injEq, Prod.mk.injEq] at H
  obtain ⟨rfl, rfl⟩ := H
  go_enter Try.func30, Try.ntmps30
  go_wp2_with (first | ((with_reducible refine gate_callee (f := 40) rfl ?_); refine goesL_ (some 8) rfl rfl Try.func40 (by kernel_rfl) rfl #[.string a0, .string a1] rfl (by (try simp only [List.map_toArray, List.map_cons, List.map_nil]); first | done | rfl | (simp only [List.length_drop, List.length_take]; rfl)) ?_; (with_reducible refine (stringslite_CutPrefix.calls a0 a1 t143 t144 _ A3.out).mono ?_); rintro e w' ⟨rfl, ⟨nd, rfl⟩⟩; refine ⟨_, rfl, ?_⟩))
  go_ret2
  exact ⟨by first | rfl | (simp; done) | (simp [*]; done), by repeat (first | exact Drawn0.refl _ | apply Drawn0.step)⟩

end Go.Proofs.Ytmohadimhapacaa.S
