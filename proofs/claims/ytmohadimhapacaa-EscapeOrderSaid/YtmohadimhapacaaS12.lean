-- Written by a program of this session for this claim (it follows the print's forms). Not trusted: Lean checks it.
import Derived.Test.YtmohadimhapacaaS0
import Derived.Test.YtmohadimhapacaaS3
import Derived.Test.YtmohadimhapacaaS8
import Derived.Test.YtmohadimhapacaaS10
namespace Go.Proofs.Ytmohadimhapacaa.S
open Go.RowKit Go.Proofs.YtmohadimhapacaaW.PrintWords Go.Proofs.YtmohadimhapacaaW.PrintLast Go.Proofs.YtmohadimhapacaaW.PrintMore
attribute [local go_sem] max2_int min2_int max_two min_two max_three min_three max_four min_four   -- for this text's walks alone
set_option linter.unusedVariables false
set_option linter.unusedSimpArgs false

/-! ### noonmarklaw02_EscapeOrder: function 8 -/
def noonmarklaw02_EscapeOrder.j0 : Nat → Int → ByteArray → Bool → Option (Bool)
  | 0, _, _, _ => none
  | k + 1, x0, x3, x18 => if x18 = true then (some false) else (if 0 ≤ (wrap64 ((x3.size : Int) - 1)) then (if (wrap64 ((x3.size : Int) - 1)) ≤ (x3.size : Int) then ((escape_ParseInt.f k (x3.extract 0 ((wrap64 ((x3.size : Int) - 1)) : Int).toNat)).bind fun bt254 => (if x0 > (-10) then (if x0 < 10 then (if (x3.size : Int) = 1 then (if x0 ≥ 0 then (some true) else (if (x3.size : Int) = 2 then (some (decide (x0 < 0))) else (some false))) else (if (x3.size : Int) = 2 then (some (decide (x0 < 0))) else (some false))) else (if bt254.1 = (wrap64 (Int.tdiv x0 10)) then ((noonmarklaw02_alive.f k).bind fun t256 => (some t256)) else (some false))) else (if bt254.1 = (wrap64 (Int.tdiv x0 10)) then ((noonmarklaw02_alive.f k).bind fun t257 => (some t257)) else (some false)))) else (none)) else (none))
def noonmarklaw02_EscapeOrder.f (k : Nat) (a0 : Int) : Option (Bool) := (escape_Int.f a0).bind fun t253 => (if (t253.size : Int) = 0 then (noonmarklaw02_EscapeOrder.j0 k a0 t253 true) else (if 0 < (t253.size : Int) then (noonmarklaw02_EscapeOrder.j0 k a0 t253 (((bt t253 0) == 45) != (decide (a0 < 0)))) else (none)))
theorem noonmarklaw02_EscapeOrder.mono_l : ∀ k, (∀ y0 y1 y2, LeO (noonmarklaw02_EscapeOrder.j0 k y0 y1 y2) (noonmarklaw02_EscapeOrder.j0 (k + 1) y0 y1 y2))
  | 0 => fun _ _ _ r h => by simp [noonmarklaw02_EscapeOrder.j0] at h
  | k + 1 => by
    have ih0 := noonmarklaw02_EscapeOrder.mono_l k
    · intro y0 y1 y2
      unfold noonmarklaw02_EscapeOrder.j0
      repeat' first
      | (with_reducible exact ih0 _ _ _)
      | (with_reducible exact escape_ParseInt.mono _ _)
      | (with_reducible exact noonmarklaw02_alive.mono _)
      | (with_reducible exact LeO.refl _)
      | (with_reducible exact LeO.none _)
      | (with_reducible refine LeO.ite ?_ ?_)
      | (with_reducible refine LeO.bind ?_ (fun _ => ?_))
      | exact ih0 _ _ _
      | exact escape_ParseInt.mono _ _
      | exact noonmarklaw02_alive.mono _
      | exact LeO.none _
      | refine LeO.ite ?_ ?_
      | refine LeO.bind ?_ (fun _ => ?_)
theorem noonmarklaw02_EscapeOrder.mono : ∀ a0 k, LeO (noonmarklaw02_EscapeOrder.f k a0) (noonmarklaw02_EscapeOrder.f (k + 1) a0) := by
  intro a0 k
  have ih0 := noonmarklaw02_EscapeOrder.mono_l k
  unfold noonmarklaw02_EscapeOrder.f
  repeat' first
      | (with_reducible exact ih0 _ _ _)
      | (with_reducible exact escape_ParseInt.mono _ _)
      | (with_reducible exact noonmarklaw02_alive.mono _)
      | (with_reducible exact LeO.refl _)
      | (with_reducible exact LeO.none _)
      | (with_reducible refine LeO.ite ?_ ?_)
      | (with_reducible refine LeO.bind ?_ (fun _ => ?_))
      | exact ih0 _ _ _
      | exact escape_ParseInt.mono _ _
      | exact noonmarklaw02_alive.mono _
      | exact LeO.none _
      | refine LeO.ite ?_ ?_
      | refine LeO.bind ?_ (fun _ => ?_)
set_option maxHeartbeats 8000000 in
set_option maxRecDepth 100000 in
theorem noonmarklaw02_EscapeOrder.calls (k : Nat) (a0 : Int) (r : Bool) (w : World) (h : noonmarklaw02_EscapeOrder.f k a0 = some r) :
    Calls Try.prog 8 #[.int .i64 a0] w fun e w' => e = .returned (.bool r) ∧ Below w.heap.size w w' := by
  have HB := Aside0.mk (Below.refl w.heap.size w)
  have H : ((escape_Int.f a0).bind fun t253 => (if (t253.size : Int) = 0 then (noonmarklaw02_EscapeOrder.j0 k a0 t253 true) else (if 0 < (t253.size : Int) then (noonmarklaw02_EscapeOrder.j0 k a0 t253 (((bt t253 0) == 45) != (decide (a0 < 0)))) else (none)))) = some r := h
  clear h
  replace H := Option.bind_eq_some_iff.mp H
  obtain ⟨t253, A20, H⟩ := H
  replace H : (if (t253.size : Int) = 0 then (noonmarklaw02_EscapeOrder.j0 k a0 t253 true) else (if 0 < (t253.size : Int) then (noonmarklaw02_EscapeOrder.j0 k a0 t253 (((bt t253 0) == 45) != (decide (a0 < 0)))) else (none))) = some r := H
  have A2 := Aside0.mk A20
  clear A20
  have HC3 := Aside0.mk H
  clear H
  go_enter Try.func8, Try.ntmps8
  go_upto_region 2 with (first | ((with_reducible refine gate_callee (f := 22) rfl ?_); refine goesL_ (some 7) rfl rfl Try.func22 (by kernel_rfl) rfl #[.int .i64 a0] rfl (by (try simp only [List.map_toArray, List.map_cons, List.map_nil]); first | done | rfl | (simp only [List.length_drop, List.length_take]; rfl)) ?_; (with_reducible refine (escape_Int.calls a0 t253 _ A2.out).mono ?_); rintro e w4 ⟨rfl, hb⟩; refine ⟨_, rfl, ?_⟩; have n0_ := Aside0.mk (below_step (by repeat (first | (with_reducible first | exact HB.out | apply below_alloc | apply pw_below_drewN | apply below_drew1) | exact HB.out)) hb); clear HB; have HB := n0_; clear n0_; (try clear hb); (try clear hb2); (try clear hk); (try clear hi)))
  (try simp only [Act.put, List.setIfInBounds_toArray, List.set_cons_zero, List.set_cons_succ])
  go_cut [18] (fun v18 wc => ∃ (kq : Nat) (x18_2 : Bool), v18 = .bool x18_2 ∧ Aside0 (noonmarklaw02_EscapeOrder.j0 kq a0 t253 x18_2 = some r) ∧ Aside0 (kq ≤ k) ∧ Aside0 (Below w.heap.size w wc))
  case first =>
    have H := HC3.out
    clear HC3
    by_cases c5 : (t253.size : Int) = 0
    · rw [if_pos c5] at H
      have c5b0 : ((t253.size : Int) == 0) = true := beq_iff_eq.mpr c5
      have c5b1 : ((t253.size : Int) != 0) = false := bne_eq_false_iff_eq.mpr c5
      clear c5
      (first | rw [c5b0] | (simp only [i64_w, i32_w]; rw [c5b0]) | skip)
      have H' := Aside0.mk H
      clear H
      go_wp2
      go_meet
      case rel => exact ⟨_, (true), (by first | rfl | (simp; done) | (simp [*]; done)), H', ⟨by first | omega | exact Nat.le_refl _⟩, ⟨by repeat (first | (with_reducible first | exact HB.out | apply below_alloc | apply pw_below_drewN | apply below_drew1) | exact HB.out)⟩⟩
    · rw [if_neg c5] at H
      have c5b0 : ((t253.size : Int) == 0) = false := beq_eq_false_iff_ne.mpr c5
      have c5b1 : ((t253.size : Int) != 0) = true := bne_iff_ne.mpr c5
      (first | rw [c5b0] | (simp only [i64_w, i32_w]; rw [c5b0]) | skip)
      by_cases c6 : 0 < (t253.size : Int)
      · rw [if_pos c6] at H
        have c6b0 : decide (0 < (t253.size : Int)) = true := decide_eq_true c6
        have c6b1 : decide (0 < t253.size) = true := decide_eq_true (by omega)
        clear c6
        have H' := Aside0.mk H
        clear H
        have p7 : 0 ≤ (0 : Int) := (by omega)
        have q7 : 0 < t253.size := (by have : (0 : Int) < (t253.size : Int) := of_decide_eq_true (by first | (with_reducible assumption) | assumption); omega)
        have hx7 : ∀ h : 0 < t253.size, ((t253[0]'h).toNat : Int) = bt t253 0 := bt_at t253 0
        clear p7
        have qi7 : (0 < (t253.size : Int)) = True := eq_true (of_decide_eq_true (by first | (with_reducible assumption) | assumption))
        replace q7 := eq_true q7
        go_wp2
        go_meet
        case rel => exact ⟨_, ((((bt t253 0) == 45) != (decide (a0 < 0)))), (by first | rfl | (simp; done) | (simp [*]; done)), H', ⟨by first | omega | exact Nat.le_refl _⟩, ⟨by repeat (first | (with_reducible first | exact HB.out | apply below_alloc | apply pw_below_drewN | apply below_drew1) | exact HB.out)⟩⟩
      · rw [if_neg c6] at H
        exact absurd H (by simp)
  case rest =>
    clear HC3
    try clear c2
    try clear p2
    try clear c5
    try clear c5b0
    try clear c5b1
    try clear c6
    try clear c6b0
    try clear c6b1
    try clear p7
    try clear q7
    try clear hx7
    try clear qi7
    try clear p7
    try clear q7
    obtain ⟨kq, x18_2, rfl, HA, HJ2, HB⟩ := hcut
    cases kq with
    | zero => exact absurd HA.out (by simp [noonmarklaw02_EscapeOrder.j0])
    | succ kj2 =>
      have H := HA.out
      clear HA
      simp only [noonmarklaw02_EscapeOrder.j0] at H
      by_cases c8 : x18_2 = true
      · subst c8
        have H1 : (some false) = some r := by rw [if_pos rfl] at H; exact H
        clear H
        have H := H1
        clear H1
        obtain rfl := Option.some.inj H
        go_wp2
        go_ret
        exact ⟨by first | rfl | (simp [errW_none, errW_some] <;> rfl) | (simp [*, errW_none, errW_some] <;> rfl), by repeat (first | (with_reducible first | exact HB.out | apply below_alloc | apply pw_below_drewN | apply below_drew1) | exact HB.out)⟩
      · replace c8 := Bool.eq_false_iff.mpr c8
        subst c8
        have H1 : (if 0 ≤ (wrap64 ((t253.size : Int) - 1)) then (if (wrap64 ((t253.size : Int) - 1)) ≤ (t253.size : Int) then ((escape_ParseInt.f kj2 (t253.extract 0 ((wrap64 ((t253.size : Int) - 1)) : Int).toNat)).bind fun bt254 => (if a0 > (-10) then (if a0 < 10 then (if (t253.size : Int) = 1 then (if a0 ≥ 0 then (some true) else (if (t253.size : Int) = 2 then (some (decide (a0 < 0))) else (some false))) else (if (t253.size : Int) = 2 then (some (decide (a0 < 0))) else (some false))) else (if bt254.1 = (wrap64 (Int.tdiv a0 10)) then ((noonmarklaw02_alive.f kj2).bind fun t256 => (some t256)) else (some false))) else (if bt254.1 = (wrap64 (Int.tdiv a0 10)) then ((noonmarklaw02_alive.f kj2).bind fun t257 => (some t257)) else (some false)))) else (none)) else (none)) = some r := by rw [if_neg (show ¬ (false = true) by decide)] at H; exact H
        clear H
        have H := H1
        clear H1
        obtain ⟨ji9, hji9⟩ : ∃ j_ : Int, (wrap64 ((t253.size : Int) - 1)) = j_ := ⟨_, rfl⟩
        replace H : (if 0 ≤ (ji9) then (if (ji9) ≤ (t253.size : Int) then ((escape_ParseInt.f kj2 (t253.extract 0 ((ji9) : Int).toNat)).bind fun bt254 => (if a0 > (-10) then (if a0 < 10 then (if (t253.size : Int) = 1 then (if a0 ≥ 0 then (some true) else (if (t253.size : Int) = 2 then (some (decide (a0 < 0))) else (some false))) else (if (t253.size : Int) = 2 then (some (decide (a0 < 0))) else (some false))) else (if bt254.1 = (wrap64 (Int.tdiv a0 10)) then ((noonmarklaw02_alive.f kj2).bind fun t256 => (some t256)) else (some false))) else (if bt254.1 = (wrap64 (Int.tdiv a0 10)) then ((noonmarklaw02_alive.f kj2).bind fun t257 => (some t257)) else (some false)))) else (none)) else (none)) = some r := by first | (rw [hji9] at H; exact H) | (simp only [hji9] at H ⊢; exact H)
        have hji9w : (IntKind.i64.wrap ((t253.size : Int) - 1)) = ji9 := (i64_w _).trans hji9
        by_cases c10 : 0 ≤ (ji9)
        · rw [if_pos c10] at H
          have c10b0 := eq_true c10
          have c10b1 : decide (0 ≤ (ji9)) = true := decide_eq_true c10
          clear c10
          by_cases c11 : (ji9) ≤ (t253.size : Int)
          · rw [if_pos c11] at H
            have c11b0 := eq_true c11
            have c11b1 : decide ((ji9) ≤ (t253.size : Int)) = true := decide_eq_true c11
            clear c11
            replace H := Option.bind_eq_some_iff.mp H
            obtain ⟨⟨t254, t255⟩, A120, H⟩ := H
            replace H : (if a0 > (-10) then (if a0 < 10 then (if (t253.size : Int) = 1 then (if a0 ≥ 0 then (some true) else (if (t253.size : Int) = 2 then (some (decide (a0 < 0))) else (some false))) else (if (t253.size : Int) = 2 then (some (decide (a0 < 0))) else (some false))) else (if t254 = (wrap64 (Int.tdiv a0 10)) then ((noonmarklaw02_alive.f kj2).bind fun t256 => (some t256)) else (some false))) else (if t254 = (wrap64 (Int.tdiv a0 10)) then ((noonmarklaw02_alive.f kj2).bind fun t257 => (some t257)) else (some false))) = some r := H
            have A12 := Aside0.mk A120
            clear A120
            by_cases c13 : a0 > (-10)
            · rw [if_pos c13] at H
              have c13b0 : decide ((-10) < a0) = true := decide_eq_true c13
              clear c13
              by_cases c14 : a0 < 10
              · rw [if_pos c14] at H
                have c14b0 : decide (a0 < 10) = true := decide_eq_true c14
                clear c14
                by_cases c15 : (t253.size : Int) = 1
                · rw [if_pos c15] at H
                  have c15b0 : ((t253.size : Int) == 1) = true := beq_iff_eq.mpr c15
                  have c15b1 : ((t253.size : Int) != 1) = false := bne_eq_false_iff_eq.mpr c15
                  clear c15
                  by_cases c16 : a0 ≥ 0
                  · rw [if_pos c16] at H
                    have c16b0 : decide (0 ≤ a0) = true := decide_eq_true c16
                    clear c16
                    obtain rfl := Option.some.inj H
                    go_wp2_with (first | ((with_reducible refine gate_callee (f := 20) rfl ?_); refine goesL_ (some 25) rfl rfl Try.func20 (by kernel_rfl) rfl #[.string (t253.extract 0 ((ji9) : Int).toNat)] rfl (by (try simp only [List.map_toArray, List.map_cons, List.map_nil]); first | done | (simp only [hji9]; rfl) | rfl | (simp only [List.length_drop, List.length_take]; rfl)) ?_; (with_reducible refine (escape_ParseInt.calls kj2 (t253.extract 0 ((ji9) : Int).toNat) t254 t255 _ A12.out).mono ?_); rintro e w' ⟨rfl, ⟨nd, rfl⟩⟩; refine ⟨_, rfl, ?_⟩))
                    go_ret
                    exact ⟨by first | rfl | (simp [errW_none, errW_some] <;> rfl) | (simp only [← hji9]; first | rfl | (simp [errW_none, errW_some] <;> rfl)) | (simp [*, errW_none, errW_some] <;> rfl), by repeat (first | (with_reducible first | exact HB.out | apply below_alloc | apply pw_below_drewN | apply below_drew1) | exact HB.out)⟩
                  · rw [if_neg c16] at H
                    have c16b0 : decide (0 ≤ a0) = false := decide_eq_false c16
                    clear c16
                    by_cases c17 : (t253.size : Int) = 2
                    · rw [if_pos c17] at H
                      have c17b0 : ((t253.size : Int) == 2) = true := beq_iff_eq.mpr c17
                      have c17b1 : ((t253.size : Int) != 2) = false := bne_eq_false_iff_eq.mpr c17
                      clear c17
                      obtain rfl := Option.some.inj H
                      go_wp2_with (first | ((with_reducible refine gate_callee (f := 20) rfl ?_); refine goesL_ (some 25) rfl rfl Try.func20 (by kernel_rfl) rfl #[.string (t253.extract 0 ((ji9) : Int).toNat)] rfl (by (try simp only [List.map_toArray, List.map_cons, List.map_nil]); first | done | (simp only [hji9]; rfl) | rfl | (simp only [List.length_drop, List.length_take]; rfl)) ?_; (with_reducible refine (escape_ParseInt.calls kj2 (t253.extract 0 ((ji9) : Int).toNat) t254 t255 _ A12.out).mono ?_); rintro e w' ⟨rfl, ⟨nd, rfl⟩⟩; refine ⟨_, rfl, ?_⟩))
                      go_ret
                      exact ⟨by first | rfl | (simp [errW_none, errW_some] <;> rfl) | (simp only [← hji9]; first | rfl | (simp [errW_none, errW_some] <;> rfl)) | (simp [*, errW_none, errW_some] <;> rfl), by repeat (first | (with_reducible first | exact HB.out | apply below_alloc | apply pw_below_drewN | apply below_drew1) | exact HB.out)⟩
                    · rw [if_neg c17] at H
                      have c17b0 : ((t253.size : Int) == 2) = false := beq_eq_false_iff_ne.mpr c17
                      have c17b1 : ((t253.size : Int) != 2) = true := bne_iff_ne.mpr c17
                      obtain rfl := Option.some.inj H
                      go_wp2_with (first | ((with_reducible refine gate_callee (f := 20) rfl ?_); refine goesL_ (some 25) rfl rfl Try.func20 (by kernel_rfl) rfl #[.string (t253.extract 0 ((ji9) : Int).toNat)] rfl (by (try simp only [List.map_toArray, List.map_cons, List.map_nil]); first | done | (simp only [hji9]; rfl) | rfl | (simp only [List.length_drop, List.length_take]; rfl)) ?_; (with_reducible refine (escape_ParseInt.calls kj2 (t253.extract 0 ((ji9) : Int).toNat) t254 t255 _ A12.out).mono ?_); rintro e w' ⟨rfl, ⟨nd, rfl⟩⟩; refine ⟨_, rfl, ?_⟩))
                      go_ret
                      exact ⟨by first | rfl | (simp [errW_none, errW_some] <;> rfl) | (simp only [← hji9]; first | rfl | (simp [errW_none, errW_some] <;> rfl)) | (simp [*, errW_none, errW_some] <;> rfl), by repeat (first | (with_reducible first | exact HB.out | apply below_alloc | apply pw_below_drewN | apply below_drew1) | exact HB.out)⟩
                · rw [if_neg c15] at H
                  have c15b0 : ((t253.size : Int) == 1) = false := beq_eq_false_iff_ne.mpr c15
                  have c15b1 : ((t253.size : Int) != 1) = true := bne_iff_ne.mpr c15
                  by_cases c18 : (t253.size : Int) = 2
                  · rw [if_pos c18] at H
                    have c18b0 : ((t253.size : Int) == 2) = true := beq_iff_eq.mpr c18
                    have c18b1 : ((t253.size : Int) != 2) = false := bne_eq_false_iff_eq.mpr c18
                    clear c18
                    obtain rfl := Option.some.inj H
                    go_wp2_with (first | ((with_reducible refine gate_callee (f := 20) rfl ?_); refine goesL_ (some 25) rfl rfl Try.func20 (by kernel_rfl) rfl #[.string (t253.extract 0 ((ji9) : Int).toNat)] rfl (by (try simp only [List.map_toArray, List.map_cons, List.map_nil]); first | done | (simp only [hji9]; rfl) | rfl | (simp only [List.length_drop, List.length_take]; rfl)) ?_; (with_reducible refine (escape_ParseInt.calls kj2 (t253.extract 0 ((ji9) : Int).toNat) t254 t255 _ A12.out).mono ?_); rintro e w' ⟨rfl, ⟨nd, rfl⟩⟩; refine ⟨_, rfl, ?_⟩))
                    go_ret
                    exact ⟨by first | rfl | (simp [errW_none, errW_some] <;> rfl) | (simp only [← hji9]; first | rfl | (simp [errW_none, errW_some] <;> rfl)) | (simp [*, errW_none, errW_some] <;> rfl), by repeat (first | (with_reducible first | exact HB.out | apply below_alloc | apply pw_below_drewN | apply below_drew1) | exact HB.out)⟩
                  · rw [if_neg c18] at H
                    have c18b0 : ((t253.size : Int) == 2) = false := beq_eq_false_iff_ne.mpr c18
                    have c18b1 : ((t253.size : Int) != 2) = true := bne_iff_ne.mpr c18
                    obtain rfl := Option.some.inj H
                    go_wp2_with (first | ((with_reducible refine gate_callee (f := 20) rfl ?_); refine goesL_ (some 25) rfl rfl Try.func20 (by kernel_rfl) rfl #[.string (t253.extract 0 ((ji9) : Int).toNat)] rfl (by (try simp only [List.map_toArray, List.map_cons, List.map_nil]); first | done | (simp only [hji9]; rfl) | rfl | (simp only [List.length_drop, List.length_take]; rfl)) ?_; (with_reducible refine (escape_ParseInt.calls kj2 (t253.extract 0 ((ji9) : Int).toNat) t254 t255 _ A12.out).mono ?_); rintro e w' ⟨rfl, ⟨nd, rfl⟩⟩; refine ⟨_, rfl, ?_⟩))
                    go_ret
                    exact ⟨by first | rfl | (simp [errW_none, errW_some] <;> rfl) | (simp only [← hji9]; first | rfl | (simp [errW_none, errW_some] <;> rfl)) | (simp [*, errW_none, errW_some] <;> rfl), by repeat (first | (with_reducible first | exact HB.out | apply below_alloc | apply pw_below_drewN | apply below_drew1) | exact HB.out)⟩
              · rw [if_neg c14] at H
                have c14b0 : decide (a0 < 10) = false := decide_eq_false c14
                clear c14
                by_cases c19 : t254 = (wrap64 (Int.tdiv a0 10))
                · rw [if_pos c19] at H
                  have c19b0 : (t254 == (wrap64 (Int.tdiv a0 10))) = true := beq_iff_eq.mpr c19
                  have c19b1 : (t254 != (wrap64 (Int.tdiv a0 10))) = false := bne_eq_false_iff_eq.mpr c19
                  clear c19
                  replace H := Option.bind_eq_some_iff.mp H
                  obtain ⟨t256, A200, H⟩ := H
                  replace H : (some t256) = some r := H
                  have A20 := Aside0.mk A200
                  clear A200
                  obtain rfl := Option.some.inj H
                  go_wp2_with (first | ((with_reducible refine gate_callee (f := 20) rfl ?_); refine goesL_ (some 25) rfl rfl Try.func20 (by kernel_rfl) rfl #[.string (t253.extract 0 ((ji9) : Int).toNat)] rfl (by (try simp only [List.map_toArray, List.map_cons, List.map_nil]); first | done | (simp only [hji9]; rfl) | rfl | (simp only [List.length_drop, List.length_take]; rfl)) ?_; (with_reducible refine (escape_ParseInt.calls kj2 (t253.extract 0 ((ji9) : Int).toNat) t254 t255 _ A12.out).mono ?_); rintro e w' ⟨rfl, ⟨nd, rfl⟩⟩; refine ⟨_, rfl, ?_⟩) | (go_at_call 9; (with_reducible refine (noonmarklaw02_alive.calls kj2  t256 _ A20.out).mono ?_); rintro e w21 ⟨rfl, hb⟩; have n0_ := Aside0.mk (below_step (by repeat (first | (with_reducible first | exact HB.out | apply below_alloc | apply pw_below_drewN | apply below_drew1) | exact HB.out)) hb); clear HB; have HB := n0_; clear n0_; (try clear hb); (try clear hb2); (try clear hk); (try clear hi)))
                  go_ret
                  exact ⟨by first | rfl | (simp [errW_none, errW_some] <;> rfl) | (simp only [← hji9]; first | rfl | (simp [errW_none, errW_some] <;> rfl)) | (simp [*, errW_none, errW_some] <;> rfl), by repeat (first | (with_reducible first | exact HB.out | apply below_alloc | apply pw_below_drewN | apply below_drew1) | exact HB.out)⟩
                · rw [if_neg c19] at H
                  have c19b0 : (t254 == (wrap64 (Int.tdiv a0 10))) = false := beq_eq_false_iff_ne.mpr c19
                  have c19b1 : (t254 != (wrap64 (Int.tdiv a0 10))) = true := bne_iff_ne.mpr c19
                  obtain rfl := Option.some.inj H
                  go_wp2_with (first | ((with_reducible refine gate_callee (f := 20) rfl ?_); refine goesL_ (some 25) rfl rfl Try.func20 (by kernel_rfl) rfl #[.string (t253.extract 0 ((ji9) : Int).toNat)] rfl (by (try simp only [List.map_toArray, List.map_cons, List.map_nil]); first | done | (simp only [hji9]; rfl) | rfl | (simp only [List.length_drop, List.length_take]; rfl)) ?_; (with_reducible refine (escape_ParseInt.calls kj2 (t253.extract 0 ((ji9) : Int).toNat) t254 t255 _ A12.out).mono ?_); rintro e w' ⟨rfl, ⟨nd, rfl⟩⟩; refine ⟨_, rfl, ?_⟩))
                  go_ret
                  exact ⟨by first | rfl | (simp [errW_none, errW_some] <;> rfl) | (simp only [← hji9]; first | rfl | (simp [errW_none, errW_some] <;> rfl)) | (simp [*, errW_none, errW_some] <;> rfl), by repeat (first | (with_reducible first | exact HB.out | apply below_alloc | apply pw_below_drewN | apply below_drew1) | exact HB.out)⟩
            · rw [if_neg c13] at H
              have c13b0 : decide ((-10) < a0) = false := decide_eq_false c13
              clear c13
              by_cases c22 : t254 = (wrap64 (Int.tdiv a0 10))
              · rw [if_pos c22] at H
                have c22b0 : (t254 == (wrap64 (Int.tdiv a0 10))) = true := beq_iff_eq.mpr c22
                have c22b1 : (t254 != (wrap64 (Int.tdiv a0 10))) = false := bne_eq_false_iff_eq.mpr c22
                clear c22
                replace H := Option.bind_eq_some_iff.mp H
                obtain ⟨t257, A230, H⟩ := H
                replace H : (some t257) = some r := H
                have A23 := Aside0.mk A230
                clear A230
                obtain rfl := Option.some.inj H
                go_wp2_with (first | ((with_reducible refine gate_callee (f := 20) rfl ?_); refine goesL_ (some 25) rfl rfl Try.func20 (by kernel_rfl) rfl #[.string (t253.extract 0 ((ji9) : Int).toNat)] rfl (by (try simp only [List.map_toArray, List.map_cons, List.map_nil]); first | done | (simp only [hji9]; rfl) | rfl | (simp only [List.length_drop, List.length_take]; rfl)) ?_; (with_reducible refine (escape_ParseInt.calls kj2 (t253.extract 0 ((ji9) : Int).toNat) t254 t255 _ A12.out).mono ?_); rintro e w' ⟨rfl, ⟨nd, rfl⟩⟩; refine ⟨_, rfl, ?_⟩) | (go_at_call 9; (with_reducible refine (noonmarklaw02_alive.calls kj2  t257 _ A23.out).mono ?_); rintro e w24 ⟨rfl, hb⟩; have n0_ := Aside0.mk (below_step (by repeat (first | (with_reducible first | exact HB.out | apply below_alloc | apply pw_below_drewN | apply below_drew1) | exact HB.out)) hb); clear HB; have HB := n0_; clear n0_; (try clear hb); (try clear hb2); (try clear hk); (try clear hi)))
                go_ret
                exact ⟨by first | rfl | (simp [errW_none, errW_some] <;> rfl) | (simp only [← hji9]; first | rfl | (simp [errW_none, errW_some] <;> rfl)) | (simp [*, errW_none, errW_some] <;> rfl), by repeat (first | (with_reducible first | exact HB.out | apply below_alloc | apply pw_below_drewN | apply below_drew1) | exact HB.out)⟩
              · rw [if_neg c22] at H
                have c22b0 : (t254 == (wrap64 (Int.tdiv a0 10))) = false := beq_eq_false_iff_ne.mpr c22
                have c22b1 : (t254 != (wrap64 (Int.tdiv a0 10))) = true := bne_iff_ne.mpr c22
                obtain rfl := Option.some.inj H
                go_wp2_with (first | ((with_reducible refine gate_callee (f := 20) rfl ?_); refine goesL_ (some 25) rfl rfl Try.func20 (by kernel_rfl) rfl #[.string (t253.extract 0 ((ji9) : Int).toNat)] rfl (by (try simp only [List.map_toArray, List.map_cons, List.map_nil]); first | done | (simp only [hji9]; rfl) | rfl | (simp only [List.length_drop, List.length_take]; rfl)) ?_; (with_reducible refine (escape_ParseInt.calls kj2 (t253.extract 0 ((ji9) : Int).toNat) t254 t255 _ A12.out).mono ?_); rintro e w' ⟨rfl, ⟨nd, rfl⟩⟩; refine ⟨_, rfl, ?_⟩))
                go_ret
                exact ⟨by first | rfl | (simp [errW_none, errW_some] <;> rfl) | (simp only [← hji9]; first | rfl | (simp [errW_none, errW_some] <;> rfl)) | (simp [*, errW_none, errW_some] <;> rfl), by repeat (first | (with_reducible first | exact HB.out | apply below_alloc | apply pw_below_drewN | apply below_drew1) | exact HB.out)⟩
          · rw [if_neg c11] at H
            exact absurd H (by simp)
        · rw [if_neg c10] at H
          exact absurd H (by simp)

/-- THE ONE PURE STATEMENT of noonmarklaw02_EscapeOrder: yours. -/
def noonmarklaw02_EscapeOrder.Pure : Prop := ∀ (a0 : Int), (Lit.int .i64 a0).wf = true → ∃ k, noonmarklaw02_EscapeOrder.f k a0 = some true
theorem noonmarklaw02_EscapeOrder.walk (P : noonmarklaw02_EscapeOrder.Pure) (a0 : Int) (w : World) (w0 : (Lit.int .i64 a0).wf = true) :
    Calls Try.prog 8 #[.int .i64 a0] w fun e w' => e = .returned (.bool true) ∧ Below w.heap.size w w' := by
  obtain ⟨k, h⟩ := P a0 w0
  refine (noonmarklaw02_EscapeOrder.calls k a0 true w h).mono ?_
  rintro e w' ⟨rfl, hd⟩
  exact ⟨rfl, hd⟩

end Go.Proofs.Ytmohadimhapacaa.S
