-- Written by a program of this session for this claim (it follows the print's forms). Not trusted: Lean checks it.
import Derived.Test.YtbhbjlohmalicaaS0
import Derived.Test.YtbhbjlohmalicaaS3
namespace Go.Proofs.Ytbhbjlohmalicaa.S
open Go.RowKit Go.Proofs.YtbhbjlohmalicaaW.PrintWords Go.Proofs.YtbhbjlohmalicaaW.PrintLast Go.Proofs.YtbhbjlohmalicaaW.PrintMore
attribute [local go_sem] max2_int min2_int max_two min_two max_three min_three max_four min_four   -- for this text's walks alone
set_option linter.unusedVariables false
set_option linter.unusedSimpArgs false

/-! ### noonmarklaw07_LexerRise: function 5 -/
def noonmarklaw07_LexerRise.l0 : Nat → ByteArray → List (S34) → Int → Option (Bool)
  | 0, _, _, _ => none
  | k + 1, x0, x3, x6 => if x6 < (x3.length : Int) then (if 0 ≤ x6 then (if ((rd_T34 x3 x6).f1) < 0 then (some false) else (if ((rd_T34 x3 x6).f1) ≥ (x0.size : Int) then (some false) else (if 0 ≤ ((rd_T34 x3 x6).f1) then (if ((rd_T34 x3 x6).f1) < (x0.size : Int) then (if (bt x0 ((rd_T34 x3 x6).f1)) = 32 then (some false) else (if (bt x0 ((rd_T34 x3 x6).f1)) = 35 then (some false) else (if (bt x0 ((rd_T34 x3 x6).f1)) ≥ 9 then (if (bt x0 ((rd_T34 x3 x6).f1)) ≤ 13 then (some false) else (if x6 > 0 then (if 0 ≤ (wrap64 (x6 - 1)) then (if (wrap64 (x6 - 1)) < (x3.length : Int) then (if ((rd_T34 x3 (wrap64 (x6 - 1))).f1) ≥ ((rd_T34 x3 x6).f1) then (some false) else (noonmarklaw07_LexerRise.l0 k x0 x3 (wrap64 (x6 + 1)))) else (none)) else (none)) else (noonmarklaw07_LexerRise.l0 k x0 x3 (wrap64 (x6 + 1))))) else (if x6 > 0 then (if 0 ≤ (wrap64 (x6 - 1)) then (if (wrap64 (x6 - 1)) < (x3.length : Int) then (if ((rd_T34 x3 (wrap64 (x6 - 1))).f1) ≥ ((rd_T34 x3 x6).f1) then (some false) else (noonmarklaw07_LexerRise.l0 k x0 x3 (wrap64 (x6 + 1)))) else (none)) else (none)) else (noonmarklaw07_LexerRise.l0 k x0 x3 (wrap64 (x6 + 1))))))) else (none)) else (none)))) else (none)) else ((noonmarklaw07_alive.f).bind fun t167 => (some t167))
def noonmarklaw07_LexerRise.f (k : Nat) (a0 : ByteArray) : Option (Bool) := if (a0.size : Int) > 1000 then ((noonmarklaw07_alive.f).bind fun t157 => (some t157)) else ((lexer_Fields.f a0).bind fun bt158 => (if bt158.2.2 = 9 then (if (bt158.1.length : Int) = 0 then (if bt158.2.1 ≥ 0 then (if bt158.2.1 < (a0.size : Int) then (if 0 ≤ bt158.2.1 then (if (bt a0 bt158.2.1) = 34 then ((noonmarklaw07_alive.f).bind fun t163 => (some t163)) else (some false)) else (none)) else (some false)) else (some false)) else (some false)) else (noonmarklaw07_LexerRise.l0 k a0 bt158.1 0)))
theorem noonmarklaw07_LexerRise.mono_l : ∀ k, (∀ y0 y1 y2, LeO (noonmarklaw07_LexerRise.l0 k y0 y1 y2) (noonmarklaw07_LexerRise.l0 (k + 1) y0 y1 y2))
  | 0 => fun _ _ _ r h => by simp [noonmarklaw07_LexerRise.l0] at h
  | k + 1 => by
    have ih0 := noonmarklaw07_LexerRise.mono_l k
    · intro y0 y1 y2
      unfold noonmarklaw07_LexerRise.l0
      repeat' first
      | (with_reducible exact ih0 _ _ _)
      | (with_reducible exact LeO.refl _)
      | (with_reducible exact LeO.none _)
      | (with_reducible refine LeO.ite ?_ ?_)
      | (with_reducible refine LeO.bind ?_ (fun _ => ?_))
      | exact ih0 _ _ _
      | exact LeO.none _
      | refine LeO.ite ?_ ?_
      | refine LeO.bind ?_ (fun _ => ?_)
theorem noonmarklaw07_LexerRise.mono : ∀ a0 k, LeO (noonmarklaw07_LexerRise.f k a0) (noonmarklaw07_LexerRise.f (k + 1) a0) := by
  intro a0 k
  have ih0 := noonmarklaw07_LexerRise.mono_l k
  unfold noonmarklaw07_LexerRise.f
  repeat' first
      | (with_reducible exact ih0 _ _ _)
      | (with_reducible exact LeO.refl _)
      | (with_reducible exact LeO.none _)
      | (with_reducible refine LeO.ite ?_ ?_)
      | (with_reducible refine LeO.bind ?_ (fun _ => ?_))
      | exact ih0 _ _ _
      | exact LeO.none _
      | refine LeO.ite ?_ ?_
      | refine LeO.bind ?_ (fun _ => ?_)
set_option maxHeartbeats 8000000 in
set_option maxRecDepth 100000 in
theorem noonmarklaw07_LexerRise.calls (k : Nat) (a0 : ByteArray) (r : Bool) (w : World) (h : noonmarklaw07_LexerRise.f k a0 = some r) :
    Calls Try.prog 5 #[.string a0] w fun e w' => e = .returned (.bool r) ∧ Below w.heap.size w w' := by
  have HB := Aside0.mk (Below.refl w.heap.size w)
  have H : (if (a0.size : Int) > 1000 then ((noonmarklaw07_alive.f).bind fun t157 => (some t157)) else ((lexer_Fields.f a0).bind fun bt158 => (if bt158.2.2 = 9 then (if (bt158.1.length : Int) = 0 then (if bt158.2.1 ≥ 0 then (if bt158.2.1 < (a0.size : Int) then (if 0 ≤ bt158.2.1 then (if (bt a0 bt158.2.1) = 34 then ((noonmarklaw07_alive.f).bind fun t163 => (some t163)) else (some false)) else (none)) else (some false)) else (some false)) else (some false)) else (noonmarklaw07_LexerRise.l0 k a0 bt158.1 0)))) = some r := h
  clear h
  by_cases c2 : (a0.size : Int) > 1000
  · rw [if_pos c2] at H
    have c2b0 : decide (1000 < (a0.size : Int)) = true := decide_eq_true c2
    have c2b1 : decide (1000 < a0.size) = true := decide_eq_true (by omega)
    clear c2
    replace H := Option.bind_eq_some_iff.mp H
    obtain ⟨t157, A30, H⟩ := H
    replace H : (some t157) = some r := H
    have A3 := Aside0.mk A30
    clear A30
    obtain rfl := Option.some.inj H
    go_enter Try.func5, Try.ntmps5
    go_wp2_with (first | ((with_reducible refine gate_callee (f := 9) rfl ?_); refine goesL_ (some 11) rfl rfl Try.func9 (by kernel_rfl) rfl #[] rfl (by (try simp only [List.map_toArray, List.map_cons, List.map_nil]); first | done | rfl | (simp only [List.length_drop, List.length_take]; rfl)) ?_; (with_reducible refine (noonmarklaw07_alive.calls  t157 _ A3.out).mono ?_); rintro e w4 ⟨rfl, hb⟩; refine ⟨_, rfl, ?_⟩; have n0_ := Aside0.mk (below_step (by repeat (first | (with_reducible first | exact HB.out | apply below_alloc | apply pw_below_drewN | apply below_drew1) | exact HB.out)) hb); clear HB; have HB := n0_; clear n0_; (try clear hb); (try clear hb2); (try clear hk); (try clear hi)))
    go_ret
    exact ⟨by first | rfl | (simp [errW_none, errW_some] <;> rfl) | (simp [*, errW_none, errW_some] <;> rfl), by repeat (first | (with_reducible first | exact HB.out | apply below_alloc | apply pw_below_drewN | apply below_drew1) | exact HB.out)⟩
  · rw [if_neg c2] at H
    have c2b0 : decide (1000 < (a0.size : Int)) = false := decide_eq_false c2
    have c2b1 : decide (1000 < a0.size) = false := decide_eq_false (by omega)
    clear c2
    replace H := Option.bind_eq_some_iff.mp H
    obtain ⟨⟨t158, t159, t160⟩, A50, H⟩ := H
    replace H : (if t160 = 9 then (if (t158.length : Int) = 0 then (if t159 ≥ 0 then (if t159 < (a0.size : Int) then (if 0 ≤ t159 then (if (bt a0 t159) = 34 then ((noonmarklaw07_alive.f).bind fun t163 => (some t163)) else (some false)) else (none)) else (some false)) else (some false)) else (some false)) else (noonmarklaw07_LexerRise.l0 k a0 t158 0)) = some r := H
    have A5 := Aside0.mk A50
    clear A50
    by_cases c6 : t160 = 9
    · rw [if_pos c6] at H
      have c6b0 : (t160 == 9) = true := beq_iff_eq.mpr c6
      have c6b1 : (t160 != 9) = false := bne_eq_false_iff_eq.mpr c6
      clear c6
      by_cases c7 : (t158.length : Int) = 0
      · rw [if_pos c7] at H
        have c7b0 : ((t158.length : Int) == 0) = true := beq_iff_eq.mpr c7
        have c7b1 : ((t158.length : Int) != 0) = false := bne_eq_false_iff_eq.mpr c7
        clear c7
        by_cases c8 : t159 ≥ 0
        · rw [if_pos c8] at H
          have c8b0 : decide (0 ≤ t159) = true := decide_eq_true c8
          clear c8
          by_cases c9 : t159 < (a0.size : Int)
          · rw [if_pos c9] at H
            have c9b0 : decide (t159 < (a0.size : Int)) = true := decide_eq_true c9
            clear c9
            by_cases c10 : 0 ≤ t159
            · rw [if_pos c10] at H
              have c10b0 : decide (0 ≤ t159) = true := decide_eq_true c10
              clear c10
              by_cases c12 : (bt a0 t159) = 34
              · rw [if_pos c12] at H
                have c12b0 : ((bt a0 t159) == 34) = true := beq_iff_eq.mpr c12
                have c12b1 : ((bt a0 t159) != 34) = false := bne_eq_false_iff_eq.mpr c12
                clear c12
                replace H := Option.bind_eq_some_iff.mp H
                obtain ⟨t163, A130, H⟩ := H
                replace H : (some t163) = some r := H
                have A13 := Aside0.mk A130
                clear A130
                obtain rfl := Option.some.inj H
                go_enter Try.func5, Try.ntmps5
                go_wp2_with (first | ((with_reducible refine gate_callee (f := 10) rfl ?_); refine goesL_ (some 14) rfl rfl Try.func10 (by kernel_rfl) rfl #[.string a0] rfl (by (try simp only [List.map_toArray, List.map_cons, List.map_nil]); first | done | rfl | (simp only [List.length_drop, List.length_take]; rfl)) ?_; (with_reducible refine (lexer_Fields.calls a0 t158 t159 t160 _ A5.out).mono ?_); rintro e w14 ⟨v161, rfl, ho0, hb⟩; refine ⟨_, rfl, ?_⟩; have n0_ := Aside0.mk (Kd.R_lower ho0 (below_size (by repeat (first | (with_reducible first | exact HB.out | apply below_alloc | apply pw_below_drewN | apply below_drew1) | exact HB.out)))); have n1_ := Aside0.mk (below_step (by repeat (first | (with_reducible first | exact HB.out | apply below_alloc | apply pw_below_drewN | apply below_drew1) | exact HB.out)) hb); clear HB; have HO162 := n0_; have HB := n1_; clear n0_ n1_; (try clear hb); (try clear hb2); (try clear hk); (try clear hi); (try clear ho0); obtain ⟨Ao15, co15, eo15⟩ := Kd.R_slice HO162.out; subst eo15; have p11 : 0 ≤ (t159 : Int) := of_decide_eq_true (by first | (with_reducible assumption) | assumption); have q11 : t159 < (a0.size : Int) := of_decide_eq_true (by first | (with_reducible assumption) | assumption); have hx11 := bt_at a0 t159; replace p11 := eq_true p11; replace q11 := eq_true q11) | (go_at_call 9; (with_reducible refine (noonmarklaw07_alive.calls  t163 _ A13.out).mono ?_); rintro e w16 ⟨rfl, hb⟩; have n0_ := Aside0.mk (Kd.R_below (by (with_reducible repeat (first | apply Kd.R_alloc | apply Kd.R_drewN | apply Kd.R_drew)); exact HO162.out) hb); have n1_ := Aside0.mk (below_step (by repeat (first | (with_reducible first | exact HB.out | apply below_alloc | apply pw_below_drewN | apply below_drew1) | exact HB.out)) hb); clear HO162; clear HB; have HO162 := n0_; have HB := n1_; clear n0_ n1_; (try clear hb); (try clear hb2); (try clear hk); (try clear hi)))
                go_ret
                exact ⟨by first | rfl | (simp [errW_none, errW_some] <;> rfl) | (simp [*, errW_none, errW_some] <;> rfl), by repeat (first | (with_reducible first | exact HB.out | apply below_alloc | apply pw_below_drewN | apply below_drew1) | exact HB.out)⟩
              · rw [if_neg c12] at H
                have c12b0 : ((bt a0 t159) == 34) = false := beq_eq_false_iff_ne.mpr c12
                have c12b1 : ((bt a0 t159) != 34) = true := bne_iff_ne.mpr c12
                obtain rfl := Option.some.inj H
                go_enter Try.func5, Try.ntmps5
                go_wp2_with (first | ((with_reducible refine gate_callee (f := 10) rfl ?_); refine goesL_ (some 14) rfl rfl Try.func10 (by kernel_rfl) rfl #[.string a0] rfl (by (try simp only [List.map_toArray, List.map_cons, List.map_nil]); first | done | rfl | (simp only [List.length_drop, List.length_take]; rfl)) ?_; (with_reducible refine (lexer_Fields.calls a0 t158 t159 t160 _ A5.out).mono ?_); rintro e w17 ⟨v161, rfl, ho0, hb⟩; refine ⟨_, rfl, ?_⟩; have n0_ := Aside0.mk (Kd.R_lower ho0 (below_size (by repeat (first | (with_reducible first | exact HB.out | apply below_alloc | apply pw_below_drewN | apply below_drew1) | exact HB.out)))); have n1_ := Aside0.mk (below_step (by repeat (first | (with_reducible first | exact HB.out | apply below_alloc | apply pw_below_drewN | apply below_drew1) | exact HB.out)) hb); clear HB; have HO162 := n0_; have HB := n1_; clear n0_ n1_; (try clear hb); (try clear hb2); (try clear hk); (try clear hi); (try clear ho0); obtain ⟨Ao18, co18, eo18⟩ := Kd.R_slice HO162.out; subst eo18; have p11 : 0 ≤ (t159 : Int) := of_decide_eq_true (by first | (with_reducible assumption) | assumption); have q11 : t159 < (a0.size : Int) := of_decide_eq_true (by first | (with_reducible assumption) | assumption); have hx11 := bt_at a0 t159; replace p11 := eq_true p11; replace q11 := eq_true q11))
                go_ret
                exact ⟨by first | rfl | (simp [errW_none, errW_some] <;> rfl) | (simp [*, errW_none, errW_some] <;> rfl), by repeat (first | (with_reducible first | exact HB.out | apply below_alloc | apply pw_below_drewN | apply below_drew1) | exact HB.out)⟩
            · rw [if_neg c10] at H
              exact absurd H (by simp)
          · rw [if_neg c9] at H
            have c9b0 : decide (t159 < (a0.size : Int)) = false := decide_eq_false c9
            clear c9
            obtain rfl := Option.some.inj H
            go_enter Try.func5, Try.ntmps5
            go_wp2_with (first | ((with_reducible refine gate_callee (f := 10) rfl ?_); refine goesL_ (some 14) rfl rfl Try.func10 (by kernel_rfl) rfl #[.string a0] rfl (by (try simp only [List.map_toArray, List.map_cons, List.map_nil]); first | done | rfl | (simp only [List.length_drop, List.length_take]; rfl)) ?_; (with_reducible refine (lexer_Fields.calls a0 t158 t159 t160 _ A5.out).mono ?_); rintro e w19 ⟨v161, rfl, ho0, hb⟩; refine ⟨_, rfl, ?_⟩; have n0_ := Aside0.mk (Kd.R_lower ho0 (below_size (by repeat (first | (with_reducible first | exact HB.out | apply below_alloc | apply pw_below_drewN | apply below_drew1) | exact HB.out)))); have n1_ := Aside0.mk (below_step (by repeat (first | (with_reducible first | exact HB.out | apply below_alloc | apply pw_below_drewN | apply below_drew1) | exact HB.out)) hb); clear HB; have HO162 := n0_; have HB := n1_; clear n0_ n1_; (try clear hb); (try clear hb2); (try clear hk); (try clear hi); (try clear ho0); obtain ⟨Ao20, co20, eo20⟩ := Kd.R_slice HO162.out; subst eo20))
            go_ret
            exact ⟨by first | rfl | (simp [errW_none, errW_some] <;> rfl) | (simp [*, errW_none, errW_some] <;> rfl), by repeat (first | (with_reducible first | exact HB.out | apply below_alloc | apply pw_below_drewN | apply below_drew1) | exact HB.out)⟩
        · rw [if_neg c8] at H
          have c8b0 : decide (0 ≤ t159) = false := decide_eq_false c8
          clear c8
          obtain rfl := Option.some.inj H
          go_enter Try.func5, Try.ntmps5
          go_wp2_with (first | ((with_reducible refine gate_callee (f := 10) rfl ?_); refine goesL_ (some 14) rfl rfl Try.func10 (by kernel_rfl) rfl #[.string a0] rfl (by (try simp only [List.map_toArray, List.map_cons, List.map_nil]); first | done | rfl | (simp only [List.length_drop, List.length_take]; rfl)) ?_; (with_reducible refine (lexer_Fields.calls a0 t158 t159 t160 _ A5.out).mono ?_); rintro e w21 ⟨v161, rfl, ho0, hb⟩; refine ⟨_, rfl, ?_⟩; have n0_ := Aside0.mk (Kd.R_lower ho0 (below_size (by repeat (first | (with_reducible first | exact HB.out | apply below_alloc | apply pw_below_drewN | apply below_drew1) | exact HB.out)))); have n1_ := Aside0.mk (below_step (by repeat (first | (with_reducible first | exact HB.out | apply below_alloc | apply pw_below_drewN | apply below_drew1) | exact HB.out)) hb); clear HB; have HO162 := n0_; have HB := n1_; clear n0_ n1_; (try clear hb); (try clear hb2); (try clear hk); (try clear hi); (try clear ho0); obtain ⟨Ao22, co22, eo22⟩ := Kd.R_slice HO162.out; subst eo22))
          go_ret
          exact ⟨by first | rfl | (simp [errW_none, errW_some] <;> rfl) | (simp [*, errW_none, errW_some] <;> rfl), by repeat (first | (with_reducible first | exact HB.out | apply below_alloc | apply pw_below_drewN | apply below_drew1) | exact HB.out)⟩
      · rw [if_neg c7] at H
        have c7b0 : ((t158.length : Int) == 0) = false := beq_eq_false_iff_ne.mpr c7
        have c7b1 : ((t158.length : Int) != 0) = true := bne_iff_ne.mpr c7
        have c7b2 : ¬ (t158 = []) := fun h_ => c7 (by rw [h_]; rfl)
        obtain rfl := Option.some.inj H
        go_enter Try.func5, Try.ntmps5
        go_wp2_with (first | ((with_reducible refine gate_callee (f := 10) rfl ?_); refine goesL_ (some 14) rfl rfl Try.func10 (by kernel_rfl) rfl #[.string a0] rfl (by (try simp only [List.map_toArray, List.map_cons, List.map_nil]); first | done | rfl | (simp only [List.length_drop, List.length_take]; rfl)) ?_; (with_reducible refine (lexer_Fields.calls a0 t158 t159 t160 _ A5.out).mono ?_); rintro e w23 ⟨v161, rfl, ho0, hb⟩; refine ⟨_, rfl, ?_⟩; have n0_ := Aside0.mk (Kd.R_lower ho0 (below_size (by repeat (first | (with_reducible first | exact HB.out | apply below_alloc | apply pw_below_drewN | apply below_drew1) | exact HB.out)))); have n1_ := Aside0.mk (below_step (by repeat (first | (with_reducible first | exact HB.out | apply below_alloc | apply pw_below_drewN | apply below_drew1) | exact HB.out)) hb); clear HB; have HO162 := n0_; have HB := n1_; clear n0_ n1_; (try clear hb); (try clear hb2); (try clear hk); (try clear hi); (try clear ho0); obtain ⟨Ao24, co24, eo24⟩ := Kd.R_slice HO162.out; subst eo24))
        go_ret
        exact ⟨by first | rfl | (simp [errW_none, errW_some] <;> rfl) | (simp [*, errW_none, errW_some] <;> rfl), by repeat (first | (with_reducible first | exact HB.out | apply below_alloc | apply pw_below_drewN | apply below_drew1) | exact HB.out)⟩
    · rw [if_neg c6] at H
      have c6b0 : (t160 == 9) = false := beq_eq_false_iff_ne.mpr c6
      have c6b1 : (t160 != 9) = true := bne_iff_ne.mpr c6
      have H' := Aside0.mk H
      clear H
      go_enter Try.func5, Try.ntmps5
      go_wp2_with (first | ((with_reducible refine gate_callee (f := 10) rfl ?_); refine goesL_ (some 14) rfl rfl Try.func10 (by kernel_rfl) rfl #[.string a0] rfl (by (try simp only [List.map_toArray, List.map_cons, List.map_nil]); first | done | rfl | (simp only [List.length_drop, List.length_take]; rfl)) ?_; (with_reducible refine (lexer_Fields.calls a0 t158 t159 t160 _ A5.out).mono ?_); rintro e w25 ⟨v161, rfl, ho0, hb⟩; refine ⟨_, rfl, ?_⟩; have n0_ := Aside0.mk (Kd.R_lower ho0 (below_size (by repeat (first | (with_reducible first | exact HB.out | apply below_alloc | apply pw_below_drewN | apply below_drew1) | exact HB.out)))); have n1_ := Aside0.mk (below_step (by repeat (first | (with_reducible first | exact HB.out | apply below_alloc | apply pw_below_drewN | apply below_drew1) | exact HB.out)) hb); clear HB; have HO162 := n0_; have HB := n1_; clear n0_ n1_; (try clear hb); (try clear hb2); (try clear hk); (try clear hi); (try clear ho0)))
      go_loopg [6] k (fun kq v6 w' => ∃ (x6_1 : Int), v6 = .int .i64 x6_1 ∧ Aside0 (noonmarklaw07_LexerRise.l0 kq a0 t158 x6_1 = some r) ∧ Aside0 (kq ≤ k) ∧ Aside0 (Kd.R k34 34 w' w.heap.size (fun _ => True) v161 t158) ∧ Aside0 (Below w.heap.size w w'))
      case atStart => exact ⟨(0), (by first | rfl | (simp; done) | (simp [*]; done)), H', ⟨Nat.le_refl _⟩, ⟨by (with_reducible repeat (first | apply Kd.R_alloc | apply Kd.R_drewN | apply Kd.R_drew)); exact HO162.out⟩, ⟨by repeat (first | (with_reducible first | exact HB.out | apply below_alloc | apply pw_below_drewN | apply below_drew1) | exact HB.out)⟩⟩
      case round =>
        clear H'
        try clear c1
        try clear p1
        try clear q1
        try clear hx1
        try clear c2
        try clear c2b0
        try clear c2b1
        try clear p2
        try clear c5
        try clear c6
        try clear c6b0
        try clear c6b1
        try clear c7
        try clear c7b0
        try clear c7b1
        try clear c7b2
        try clear c8
        try clear c8b0
        try clear c9
        try clear c9b0
        try clear c10
        try clear c10b0
        try clear p11
        try clear q11
        try clear hx11
        try clear c12
        try clear c12b0
        try clear c12b1
        try clear p11
        try clear q11
        obtain ⟨x6_1, rfl, HA, HK1, HO_3, HB⟩ := hrel
        cases gk with
        | zero => exact absurd HA.out (by simp [noonmarklaw07_LexerRise.l0])
        | succ k1 =>
          have H := HA.out
          clear HA
          simp only [noonmarklaw07_LexerRise.l0] at H
          by_cases c26 : x6_1 < (t158.length : Int)
          · rw [if_pos c26] at H
            have c26b0 : decide (x6_1 < (t158.length : Int)) = true := decide_eq_true c26
            clear c26
            by_cases c27 : 0 ≤ x6_1
            · rw [if_pos c27] at H
              have c27b0 : decide (0 ≤ x6_1) = true := decide_eq_true c27
              clear c27
              by_cases c28 : ((rd_T34 t158 x6_1).f1) < 0
              · rw [if_pos c28] at H
                have c28b0 : decide (((rd_T34 t158 x6_1).f1) < 0) = true := decide_eq_true c28
                clear c28
                obtain rfl := Option.some.inj H
                obtain ⟨Ao29, co29, eo29⟩ := Kd.R_slice HO_3.out
                subst eo29
                have p164 : 0 ≤ (x6_1 : Int) := of_decide_eq_true (by first | (with_reducible assumption) | assumption)
                have q164 : x6_1 < (t158.length : Int) := of_decide_eq_true (by first | (with_reducible assumption) | assumption)
                obtain ⟨ad164, e164, hx164_0, hx164_1⟩ := at_T34 (Kd.R_reads' HO_3.out).2.2 x6_1 p164 q164
                cases e164
                replace p164 := eq_true p164
                replace q164 := eq_true q164
                go_wp2
                go_ret
                exact ⟨by first | rfl | (simp [errW_none, errW_some] <;> rfl) | (simp [*, errW_none, errW_some] <;> rfl), by repeat (first | (with_reducible first | exact HB.out | apply below_alloc | apply pw_below_drewN | apply below_drew1) | exact HB.out)⟩
              · rw [if_neg c28] at H
                have c28b0 : decide (((rd_T34 t158 x6_1).f1) < 0) = false := decide_eq_false c28
                clear c28
                by_cases c30 : ((rd_T34 t158 x6_1).f1) ≥ (a0.size : Int)
                · rw [if_pos c30] at H
                  have c30b0 : decide ((a0.size : Int) ≤ ((rd_T34 t158 x6_1).f1)) = true := decide_eq_true c30
                  clear c30
                  obtain rfl := Option.some.inj H
                  obtain ⟨Ao31, co31, eo31⟩ := Kd.R_slice HO_3.out
                  subst eo31
                  have p164 : 0 ≤ (x6_1 : Int) := of_decide_eq_true (by first | (with_reducible assumption) | assumption)
                  have q164 : x6_1 < (t158.length : Int) := of_decide_eq_true (by first | (with_reducible assumption) | assumption)
                  obtain ⟨ad164, e164, hx164_0, hx164_1⟩ := at_T34 (Kd.R_reads' HO_3.out).2.2 x6_1 p164 q164
                  cases e164
                  replace p164 := eq_true p164
                  replace q164 := eq_true q164
                  go_wp2
                  go_ret
                  exact ⟨by first | rfl | (simp [errW_none, errW_some] <;> rfl) | (simp [*, errW_none, errW_some] <;> rfl), by repeat (first | (with_reducible first | exact HB.out | apply below_alloc | apply pw_below_drewN | apply below_drew1) | exact HB.out)⟩
                · rw [if_neg c30] at H
                  have c30b0 : decide ((a0.size : Int) ≤ ((rd_T34 t158 x6_1).f1)) = false := decide_eq_false c30
                  clear c30
                  by_cases c32 : 0 ≤ ((rd_T34 t158 x6_1).f1)
                  · rw [if_pos c32] at H
                    have c32b0 : decide (0 ≤ ((rd_T34 t158 x6_1).f1)) = true := decide_eq_true c32
                    clear c32
                    by_cases c33 : ((rd_T34 t158 x6_1).f1) < (a0.size : Int)
                    · rw [if_pos c33] at H
                      have c33b0 : decide (((rd_T34 t158 x6_1).f1) < (a0.size : Int)) = true := decide_eq_true c33
                      clear c33
                      by_cases c35 : (bt a0 ((rd_T34 t158 x6_1).f1)) = 32
                      · rw [if_pos c35] at H
                        have c35b0 : ((bt a0 ((rd_T34 t158 x6_1).f1)) == 32) = true := beq_iff_eq.mpr c35
                        have c35b1 : ((bt a0 ((rd_T34 t158 x6_1).f1)) != 32) = false := bne_eq_false_iff_eq.mpr c35
                        clear c35
                        obtain rfl := Option.some.inj H
                        obtain ⟨Ao36, co36, eo36⟩ := Kd.R_slice HO_3.out
                        subst eo36
                        have p164 : 0 ≤ (x6_1 : Int) := of_decide_eq_true (by first | (with_reducible assumption) | assumption)
                        have q164 : x6_1 < (t158.length : Int) := of_decide_eq_true (by first | (with_reducible assumption) | assumption)
                        obtain ⟨ad164, e164, hx164_0, hx164_1⟩ := at_T34 (Kd.R_reads' HO_3.out).2.2 x6_1 p164 q164
                        cases e164
                        replace p164 := eq_true p164
                        replace q164 := eq_true q164
                        have p34 : 0 ≤ (((rd_T34 t158 x6_1).f1) : Int) := of_decide_eq_true (by first | (with_reducible assumption) | assumption)
                        have q34 : ((rd_T34 t158 x6_1).f1) < (a0.size : Int) := of_decide_eq_true (by first | (with_reducible assumption) | assumption)
                        have hx34 := bt_at a0 ((rd_T34 t158 x6_1).f1)
                        replace p34 := eq_true p34
                        replace q34 := eq_true q34
                        go_wp2
                        go_ret
                        exact ⟨by first | rfl | (simp [errW_none, errW_some] <;> rfl) | (simp [*, errW_none, errW_some] <;> rfl), by repeat (first | (with_reducible first | exact HB.out | apply below_alloc | apply pw_below_drewN | apply below_drew1) | exact HB.out)⟩
                      · rw [if_neg c35] at H
                        have c35b0 : ((bt a0 ((rd_T34 t158 x6_1).f1)) == 32) = false := beq_eq_false_iff_ne.mpr c35
                        have c35b1 : ((bt a0 ((rd_T34 t158 x6_1).f1)) != 32) = true := bne_iff_ne.mpr c35
                        by_cases c38 : (bt a0 ((rd_T34 t158 x6_1).f1)) = 35
                        · rw [if_pos c38] at H
                          have c38b0 : ((bt a0 ((rd_T34 t158 x6_1).f1)) == 35) = true := beq_iff_eq.mpr c38
                          have c38b1 : ((bt a0 ((rd_T34 t158 x6_1).f1)) != 35) = false := bne_eq_false_iff_eq.mpr c38
                          clear c38
                          obtain rfl := Option.some.inj H
                          obtain ⟨Ao39, co39, eo39⟩ := Kd.R_slice HO_3.out
                          subst eo39
                          have p164 : 0 ≤ (x6_1 : Int) := of_decide_eq_true (by first | (with_reducible assumption) | assumption)
                          have q164 : x6_1 < (t158.length : Int) := of_decide_eq_true (by first | (with_reducible assumption) | assumption)
                          obtain ⟨ad164, e164, hx164_0, hx164_1⟩ := at_T34 (Kd.R_reads' HO_3.out).2.2 x6_1 p164 q164
                          cases e164
                          replace p164 := eq_true p164
                          replace q164 := eq_true q164
                          have p34 : 0 ≤ (((rd_T34 t158 x6_1).f1) : Int) := of_decide_eq_true (by first | (with_reducible assumption) | assumption)
                          have q34 : ((rd_T34 t158 x6_1).f1) < (a0.size : Int) := of_decide_eq_true (by first | (with_reducible assumption) | assumption)
                          have hx34 := bt_at a0 ((rd_T34 t158 x6_1).f1)
                          replace p34 := eq_true p34
                          replace q34 := eq_true q34
                          have p37 : 0 ≤ (((rd_T34 t158 x6_1).f1) : Int) := of_decide_eq_true (by first | (with_reducible assumption) | assumption)
                          have q37 : ((rd_T34 t158 x6_1).f1) < (a0.size : Int) := of_decide_eq_true (by first | (with_reducible assumption) | assumption)
                          have hx37 := bt_at a0 ((rd_T34 t158 x6_1).f1)
                          replace p37 := eq_true p37
                          replace q37 := eq_true q37
                          go_wp2
                          go_ret
                          exact ⟨by first | rfl | (simp [errW_none, errW_some] <;> rfl) | (simp [*, errW_none, errW_some] <;> rfl), by repeat (first | (with_reducible first | exact HB.out | apply below_alloc | apply pw_below_drewN | apply below_drew1) | exact HB.out)⟩
                        · rw [if_neg c38] at H
                          have c38b0 : ((bt a0 ((rd_T34 t158 x6_1).f1)) == 35) = false := beq_eq_false_iff_ne.mpr c38
                          have c38b1 : ((bt a0 ((rd_T34 t158 x6_1).f1)) != 35) = true := bne_iff_ne.mpr c38
                          by_cases c41 : (bt a0 ((rd_T34 t158 x6_1).f1)) ≥ 9
                          · rw [if_pos c41] at H
                            have c41b0 : decide (9 ≤ (bt a0 ((rd_T34 t158 x6_1).f1))) = true := decide_eq_true c41
                            clear c41
                            by_cases c43 : (bt a0 ((rd_T34 t158 x6_1).f1)) ≤ 13
                            · rw [if_pos c43] at H
                              have c43b0 : decide ((bt a0 ((rd_T34 t158 x6_1).f1)) ≤ 13) = true := decide_eq_true c43
                              clear c43
                              obtain rfl := Option.some.inj H
                              obtain ⟨Ao44, co44, eo44⟩ := Kd.R_slice HO_3.out
                              subst eo44
                              have p164 : 0 ≤ (x6_1 : Int) := of_decide_eq_true (by first | (with_reducible assumption) | assumption)
                              have q164 : x6_1 < (t158.length : Int) := of_decide_eq_true (by first | (with_reducible assumption) | assumption)
                              obtain ⟨ad164, e164, hx164_0, hx164_1⟩ := at_T34 (Kd.R_reads' HO_3.out).2.2 x6_1 p164 q164
                              cases e164
                              replace p164 := eq_true p164
                              replace q164 := eq_true q164
                              have p34 : 0 ≤ (((rd_T34 t158 x6_1).f1) : Int) := of_decide_eq_true (by first | (with_reducible assumption) | assumption)
                              have q34 : ((rd_T34 t158 x6_1).f1) < (a0.size : Int) := of_decide_eq_true (by first | (with_reducible assumption) | assumption)
                              have hx34 := bt_at a0 ((rd_T34 t158 x6_1).f1)
                              replace p34 := eq_true p34
                              replace q34 := eq_true q34
                              have p37 : 0 ≤ (((rd_T34 t158 x6_1).f1) : Int) := of_decide_eq_true (by first | (with_reducible assumption) | assumption)
                              have q37 : ((rd_T34 t158 x6_1).f1) < (a0.size : Int) := of_decide_eq_true (by first | (with_reducible assumption) | assumption)
                              have hx37 := bt_at a0 ((rd_T34 t158 x6_1).f1)
                              replace p37 := eq_true p37
                              replace q37 := eq_true q37
                              have p40 : 0 ≤ (((rd_T34 t158 x6_1).f1) : Int) := of_decide_eq_true (by first | (with_reducible assumption) | assumption)
                              have q40 : ((rd_T34 t158 x6_1).f1) < (a0.size : Int) := of_decide_eq_true (by first | (with_reducible assumption) | assumption)
                              have hx40 := bt_at a0 ((rd_T34 t158 x6_1).f1)
                              replace p40 := eq_true p40
                              replace q40 := eq_true q40
                              have p42 : 0 ≤ (((rd_T34 t158 x6_1).f1) : Int) := of_decide_eq_true (by first | (with_reducible assumption) | assumption)
                              have q42 : ((rd_T34 t158 x6_1).f1) < (a0.size : Int) := of_decide_eq_true (by first | (with_reducible assumption) | assumption)
                              have hx42 := bt_at a0 ((rd_T34 t158 x6_1).f1)
                              replace p42 := eq_true p42
                              replace q42 := eq_true q42
                              go_wp2
                              go_ret
                              exact ⟨by first | rfl | (simp [errW_none, errW_some] <;> rfl) | (simp [*, errW_none, errW_some] <;> rfl), by repeat (first | (with_reducible first | exact HB.out | apply below_alloc | apply pw_below_drewN | apply below_drew1) | exact HB.out)⟩
                            · rw [if_neg c43] at H
                              have c43b0 : decide ((bt a0 ((rd_T34 t158 x6_1).f1)) ≤ 13) = false := decide_eq_false c43
                              clear c43
                              by_cases c45 : x6_1 > 0
                              · rw [if_pos c45] at H
                                have c45b0 : decide (0 < x6_1) = true := decide_eq_true c45
                                clear c45
                                obtain ⟨ji46, hji46⟩ : ∃ j_ : Int, (wrap64 (x6_1 - 1)) = j_ := ⟨_, rfl⟩
                                replace H : (if 0 ≤ (ji46) then (if (ji46) < (t158.length : Int) then (if ((rd_T34 t158 (ji46)).f1) ≥ ((rd_T34 t158 x6_1).f1) then (some false) else (noonmarklaw07_LexerRise.l0 k1 a0 t158 (wrap64 (x6_1 + 1)))) else (none)) else (none)) = some r := by first | (rw [hji46] at H; exact H) | (simp only [hji46] at H ⊢; exact H)
                                have hji46w : (IntKind.i64.wrap (x6_1 - 1)) = ji46 := (i64_w _).trans hji46
                                by_cases c47 : 0 ≤ (ji46)
                                · rw [if_pos c47] at H
                                  have c47b0 : decide (0 ≤ (ji46)) = true := decide_eq_true c47
                                  clear c47
                                  by_cases c48 : (ji46) < (t158.length : Int)
                                  · rw [if_pos c48] at H
                                    have c48b0 : decide ((ji46) < (t158.length : Int)) = true := decide_eq_true c48
                                    clear c48
                                    by_cases c49 : ((rd_T34 t158 (ji46)).f1) ≥ ((rd_T34 t158 x6_1).f1)
                                    · rw [if_pos c49] at H
                                      have c49b0 : decide (((rd_T34 t158 x6_1).f1) ≤ ((rd_T34 t158 (ji46)).f1)) = true := decide_eq_true c49
                                      clear c49
                                      obtain rfl := Option.some.inj H
                                      obtain ⟨Ao50, co50, eo50⟩ := Kd.R_slice HO_3.out
                                      subst eo50
                                      have p164 : 0 ≤ (x6_1 : Int) := of_decide_eq_true (by first | (with_reducible assumption) | assumption)
                                      have q164 : x6_1 < (t158.length : Int) := of_decide_eq_true (by first | (with_reducible assumption) | assumption)
                                      obtain ⟨ad164, e164, hx164_0, hx164_1⟩ := at_T34 (Kd.R_reads' HO_3.out).2.2 x6_1 p164 q164
                                      cases e164
                                      replace p164 := eq_true p164
                                      replace q164 := eq_true q164
                                      have p34 : 0 ≤ (((rd_T34 t158 x6_1).f1) : Int) := of_decide_eq_true (by first | (with_reducible assumption) | assumption)
                                      have q34 : ((rd_T34 t158 x6_1).f1) < (a0.size : Int) := of_decide_eq_true (by first | (with_reducible assumption) | assumption)
                                      have hx34 := bt_at a0 ((rd_T34 t158 x6_1).f1)
                                      replace p34 := eq_true p34
                                      replace q34 := eq_true q34
                                      have p37 : 0 ≤ (((rd_T34 t158 x6_1).f1) : Int) := of_decide_eq_true (by first | (with_reducible assumption) | assumption)
                                      have q37 : ((rd_T34 t158 x6_1).f1) < (a0.size : Int) := of_decide_eq_true (by first | (with_reducible assumption) | assumption)
                                      have hx37 := bt_at a0 ((rd_T34 t158 x6_1).f1)
                                      replace p37 := eq_true p37
                                      replace q37 := eq_true q37
                                      have p40 : 0 ≤ (((rd_T34 t158 x6_1).f1) : Int) := of_decide_eq_true (by first | (with_reducible assumption) | assumption)
                                      have q40 : ((rd_T34 t158 x6_1).f1) < (a0.size : Int) := of_decide_eq_true (by first | (with_reducible assumption) | assumption)
                                      have hx40 := bt_at a0 ((rd_T34 t158 x6_1).f1)
                                      replace p40 := eq_true p40
                                      replace q40 := eq_true q40
                                      have p42 : 0 ≤ (((rd_T34 t158 x6_1).f1) : Int) := of_decide_eq_true (by first | (with_reducible assumption) | assumption)
                                      have q42 : ((rd_T34 t158 x6_1).f1) < (a0.size : Int) := of_decide_eq_true (by first | (with_reducible assumption) | assumption)
                                      have hx42 := bt_at a0 ((rd_T34 t158 x6_1).f1)
                                      replace p42 := eq_true p42
                                      replace q42 := eq_true q42
                                      have p165 : 0 ≤ ((ji46) : Int) := of_decide_eq_true (by first | (with_reducible assumption) | assumption)
                                      have q165 : (ji46) < (t158.length : Int) := of_decide_eq_true (by first | (with_reducible assumption) | assumption)
                                      obtain ⟨ad165, e165, hx165_0, hx165_1⟩ := at_T34 (Kd.R_reads' HO_3.out).2.2 (ji46) p165 q165
                                      obtain rfl : ad164 = ad165 := (by injection e165)
                                      replace p165 := eq_true p165
                                      replace q165 := eq_true q165
                                      go_wp2
                                      go_ret
                                      exact ⟨by first | rfl | (simp [errW_none, errW_some] <;> rfl) | (simp only [← hji46]; first | rfl | (simp [errW_none, errW_some] <;> rfl)) | (simp [*, errW_none, errW_some] <;> rfl), by repeat (first | (with_reducible first | exact HB.out | apply below_alloc | apply pw_below_drewN | apply below_drew1) | exact HB.out)⟩
                                    · rw [if_neg c49] at H
                                      have c49b0 : decide (((rd_T34 t158 x6_1).f1) ≤ ((rd_T34 t158 (ji46)).f1)) = false := decide_eq_false c49
                                      clear c49
                                      have H' := Aside0.mk H
                                      clear H
                                      obtain ⟨Ao51, co51, eo51⟩ := Kd.R_slice HO_3.out
                                      subst eo51
                                      have p164 : 0 ≤ (x6_1 : Int) := of_decide_eq_true (by first | (with_reducible assumption) | assumption)
                                      have q164 : x6_1 < (t158.length : Int) := of_decide_eq_true (by first | (with_reducible assumption) | assumption)
                                      obtain ⟨ad164, e164, hx164_0, hx164_1⟩ := at_T34 (Kd.R_reads' HO_3.out).2.2 x6_1 p164 q164
                                      cases e164
                                      replace p164 := eq_true p164
                                      replace q164 := eq_true q164
                                      have p34 : 0 ≤ (((rd_T34 t158 x6_1).f1) : Int) := of_decide_eq_true (by first | (with_reducible assumption) | assumption)
                                      have q34 : ((rd_T34 t158 x6_1).f1) < (a0.size : Int) := of_decide_eq_true (by first | (with_reducible assumption) | assumption)
                                      have hx34 := bt_at a0 ((rd_T34 t158 x6_1).f1)
                                      replace p34 := eq_true p34
                                      replace q34 := eq_true q34
                                      have p37 : 0 ≤ (((rd_T34 t158 x6_1).f1) : Int) := of_decide_eq_true (by first | (with_reducible assumption) | assumption)
                                      have q37 : ((rd_T34 t158 x6_1).f1) < (a0.size : Int) := of_decide_eq_true (by first | (with_reducible assumption) | assumption)
                                      have hx37 := bt_at a0 ((rd_T34 t158 x6_1).f1)
                                      replace p37 := eq_true p37
                                      replace q37 := eq_true q37
                                      have p40 : 0 ≤ (((rd_T34 t158 x6_1).f1) : Int) := of_decide_eq_true (by first | (with_reducible assumption) | assumption)
                                      have q40 : ((rd_T34 t158 x6_1).f1) < (a0.size : Int) := of_decide_eq_true (by first | (with_reducible assumption) | assumption)
                                      have hx40 := bt_at a0 ((rd_T34 t158 x6_1).f1)
                                      replace p40 := eq_true p40
                                      replace q40 := eq_true q40
                                      have p42 : 0 ≤ (((rd_T34 t158 x6_1).f1) : Int) := of_decide_eq_true (by first | (with_reducible assumption) | assumption)
                                      have q42 : ((rd_T34 t158 x6_1).f1) < (a0.size : Int) := of_decide_eq_true (by first | (with_reducible assumption) | assumption)
                                      have hx42 := bt_at a0 ((rd_T34 t158 x6_1).f1)
                                      replace p42 := eq_true p42
                                      replace q42 := eq_true q42
                                      have p165 : 0 ≤ ((ji46) : Int) := of_decide_eq_true (by first | (with_reducible assumption) | assumption)
                                      have q165 : (ji46) < (t158.length : Int) := of_decide_eq_true (by first | (with_reducible assumption) | assumption)
                                      obtain ⟨ad165, e165, hx165_0, hx165_1⟩ := at_T34 (Kd.R_reads' HO_3.out).2.2 (ji46) p165 q165
                                      obtain rfl : ad164 = ad165 := (by injection e165)
                                      replace p165 := eq_true p165
                                      replace q165 := eq_true q165
                                      go_wp2
                                      go_roundg k1
                                      case measure => have := HK1.out; omega
                                      case rel => exact ⟨(wrap64 (x6_1 + 1)), (by first | rfl | (simp; done) | (simp [*]; done)), H', ⟨by have := HK1.out; omega⟩, ⟨by (with_reducible repeat (first | apply Kd.R_alloc | apply Kd.R_drewN | apply Kd.R_drew)); exact HO_3.out⟩, ⟨by repeat (first | (with_reducible first | exact HB.out | apply below_alloc | apply pw_below_drewN | apply below_drew1) | exact HB.out)⟩⟩
                                  · rw [if_neg c48] at H
                                    exact absurd H (by simp)
                                · rw [if_neg c47] at H
                                  exact absurd H (by simp)
                              · rw [if_neg c45] at H
                                have c45b0 : decide (0 < x6_1) = false := decide_eq_false c45
                                clear c45
                                have H' := Aside0.mk H
                                clear H
                                obtain ⟨Ao52, co52, eo52⟩ := Kd.R_slice HO_3.out
                                subst eo52
                                have p164 : 0 ≤ (x6_1 : Int) := of_decide_eq_true (by first | (with_reducible assumption) | assumption)
                                have q164 : x6_1 < (t158.length : Int) := of_decide_eq_true (by first | (with_reducible assumption) | assumption)
                                obtain ⟨ad164, e164, hx164_0, hx164_1⟩ := at_T34 (Kd.R_reads' HO_3.out).2.2 x6_1 p164 q164
                                cases e164
                                replace p164 := eq_true p164
                                replace q164 := eq_true q164
                                have p34 : 0 ≤ (((rd_T34 t158 x6_1).f1) : Int) := of_decide_eq_true (by first | (with_reducible assumption) | assumption)
                                have q34 : ((rd_T34 t158 x6_1).f1) < (a0.size : Int) := of_decide_eq_true (by first | (with_reducible assumption) | assumption)
                                have hx34 := bt_at a0 ((rd_T34 t158 x6_1).f1)
                                replace p34 := eq_true p34
                                replace q34 := eq_true q34
                                have p37 : 0 ≤ (((rd_T34 t158 x6_1).f1) : Int) := of_decide_eq_true (by first | (with_reducible assumption) | assumption)
                                have q37 : ((rd_T34 t158 x6_1).f1) < (a0.size : Int) := of_decide_eq_true (by first | (with_reducible assumption) | assumption)
                                have hx37 := bt_at a0 ((rd_T34 t158 x6_1).f1)
                                replace p37 := eq_true p37
                                replace q37 := eq_true q37
                                have p40 : 0 ≤ (((rd_T34 t158 x6_1).f1) : Int) := of_decide_eq_true (by first | (with_reducible assumption) | assumption)
                                have q40 : ((rd_T34 t158 x6_1).f1) < (a0.size : Int) := of_decide_eq_true (by first | (with_reducible assumption) | assumption)
                                have hx40 := bt_at a0 ((rd_T34 t158 x6_1).f1)
                                replace p40 := eq_true p40
                                replace q40 := eq_true q40
                                have p42 : 0 ≤ (((rd_T34 t158 x6_1).f1) : Int) := of_decide_eq_true (by first | (with_reducible assumption) | assumption)
                                have q42 : ((rd_T34 t158 x6_1).f1) < (a0.size : Int) := of_decide_eq_true (by first | (with_reducible assumption) | assumption)
                                have hx42 := bt_at a0 ((rd_T34 t158 x6_1).f1)
                                replace p42 := eq_true p42
                                replace q42 := eq_true q42
                                go_wp2
                                go_roundg k1
                                case measure => have := HK1.out; omega
                                case rel => exact ⟨(wrap64 (x6_1 + 1)), (by first | rfl | (simp; done) | (simp [*]; done)), H', ⟨by have := HK1.out; omega⟩, ⟨by (with_reducible repeat (first | apply Kd.R_alloc | apply Kd.R_drewN | apply Kd.R_drew)); exact HO_3.out⟩, ⟨by repeat (first | (with_reducible first | exact HB.out | apply below_alloc | apply pw_below_drewN | apply below_drew1) | exact HB.out)⟩⟩
                          · rw [if_neg c41] at H
                            have c41b0 : decide (9 ≤ (bt a0 ((rd_T34 t158 x6_1).f1))) = false := decide_eq_false c41
                            clear c41
                            by_cases c53 : x6_1 > 0
                            · rw [if_pos c53] at H
                              have c53b0 : decide (0 < x6_1) = true := decide_eq_true c53
                              clear c53
                              obtain ⟨ji54, hji54⟩ : ∃ j_ : Int, (wrap64 (x6_1 - 1)) = j_ := ⟨_, rfl⟩
                              replace H : (if 0 ≤ (ji54) then (if (ji54) < (t158.length : Int) then (if ((rd_T34 t158 (ji54)).f1) ≥ ((rd_T34 t158 x6_1).f1) then (some false) else (noonmarklaw07_LexerRise.l0 k1 a0 t158 (wrap64 (x6_1 + 1)))) else (none)) else (none)) = some r := by first | (rw [hji54] at H; exact H) | (simp only [hji54] at H ⊢; exact H)
                              have hji54w : (IntKind.i64.wrap (x6_1 - 1)) = ji54 := (i64_w _).trans hji54
                              by_cases c55 : 0 ≤ (ji54)
                              · rw [if_pos c55] at H
                                have c55b0 : decide (0 ≤ (ji54)) = true := decide_eq_true c55
                                clear c55
                                by_cases c56 : (ji54) < (t158.length : Int)
                                · rw [if_pos c56] at H
                                  have c56b0 : decide ((ji54) < (t158.length : Int)) = true := decide_eq_true c56
                                  clear c56
                                  by_cases c57 : ((rd_T34 t158 (ji54)).f1) ≥ ((rd_T34 t158 x6_1).f1)
                                  · rw [if_pos c57] at H
                                    have c57b0 : decide (((rd_T34 t158 x6_1).f1) ≤ ((rd_T34 t158 (ji54)).f1)) = true := decide_eq_true c57
                                    clear c57
                                    obtain rfl := Option.some.inj H
                                    obtain ⟨Ao58, co58, eo58⟩ := Kd.R_slice HO_3.out
                                    subst eo58
                                    have p164 : 0 ≤ (x6_1 : Int) := of_decide_eq_true (by first | (with_reducible assumption) | assumption)
                                    have q164 : x6_1 < (t158.length : Int) := of_decide_eq_true (by first | (with_reducible assumption) | assumption)
                                    obtain ⟨ad164, e164, hx164_0, hx164_1⟩ := at_T34 (Kd.R_reads' HO_3.out).2.2 x6_1 p164 q164
                                    cases e164
                                    replace p164 := eq_true p164
                                    replace q164 := eq_true q164
                                    have p34 : 0 ≤ (((rd_T34 t158 x6_1).f1) : Int) := of_decide_eq_true (by first | (with_reducible assumption) | assumption)
                                    have q34 : ((rd_T34 t158 x6_1).f1) < (a0.size : Int) := of_decide_eq_true (by first | (with_reducible assumption) | assumption)
                                    have hx34 := bt_at a0 ((rd_T34 t158 x6_1).f1)
                                    replace p34 := eq_true p34
                                    replace q34 := eq_true q34
                                    have p37 : 0 ≤ (((rd_T34 t158 x6_1).f1) : Int) := of_decide_eq_true (by first | (with_reducible assumption) | assumption)
                                    have q37 : ((rd_T34 t158 x6_1).f1) < (a0.size : Int) := of_decide_eq_true (by first | (with_reducible assumption) | assumption)
                                    have hx37 := bt_at a0 ((rd_T34 t158 x6_1).f1)
                                    replace p37 := eq_true p37
                                    replace q37 := eq_true q37
                                    have p40 : 0 ≤ (((rd_T34 t158 x6_1).f1) : Int) := of_decide_eq_true (by first | (with_reducible assumption) | assumption)
                                    have q40 : ((rd_T34 t158 x6_1).f1) < (a0.size : Int) := of_decide_eq_true (by first | (with_reducible assumption) | assumption)
                                    have hx40 := bt_at a0 ((rd_T34 t158 x6_1).f1)
                                    replace p40 := eq_true p40
                                    replace q40 := eq_true q40
                                    have p166 : 0 ≤ ((ji54) : Int) := of_decide_eq_true (by first | (with_reducible assumption) | assumption)
                                    have q166 : (ji54) < (t158.length : Int) := of_decide_eq_true (by first | (with_reducible assumption) | assumption)
                                    obtain ⟨ad166, e166, hx166_0, hx166_1⟩ := at_T34 (Kd.R_reads' HO_3.out).2.2 (ji54) p166 q166
                                    obtain rfl : ad164 = ad166 := (by injection e166)
                                    replace p166 := eq_true p166
                                    replace q166 := eq_true q166
                                    go_wp2
                                    go_ret
                                    exact ⟨by first | rfl | (simp [errW_none, errW_some] <;> rfl) | (simp only [← hji54]; first | rfl | (simp [errW_none, errW_some] <;> rfl)) | (simp [*, errW_none, errW_some] <;> rfl), by repeat (first | (with_reducible first | exact HB.out | apply below_alloc | apply pw_below_drewN | apply below_drew1) | exact HB.out)⟩
                                  · rw [if_neg c57] at H
                                    have c57b0 : decide (((rd_T34 t158 x6_1).f1) ≤ ((rd_T34 t158 (ji54)).f1)) = false := decide_eq_false c57
                                    clear c57
                                    have H' := Aside0.mk H
                                    clear H
                                    obtain ⟨Ao59, co59, eo59⟩ := Kd.R_slice HO_3.out
                                    subst eo59
                                    have p164 : 0 ≤ (x6_1 : Int) := of_decide_eq_true (by first | (with_reducible assumption) | assumption)
                                    have q164 : x6_1 < (t158.length : Int) := of_decide_eq_true (by first | (with_reducible assumption) | assumption)
                                    obtain ⟨ad164, e164, hx164_0, hx164_1⟩ := at_T34 (Kd.R_reads' HO_3.out).2.2 x6_1 p164 q164
                                    cases e164
                                    replace p164 := eq_true p164
                                    replace q164 := eq_true q164
                                    have p34 : 0 ≤ (((rd_T34 t158 x6_1).f1) : Int) := of_decide_eq_true (by first | (with_reducible assumption) | assumption)
                                    have q34 : ((rd_T34 t158 x6_1).f1) < (a0.size : Int) := of_decide_eq_true (by first | (with_reducible assumption) | assumption)
                                    have hx34 := bt_at a0 ((rd_T34 t158 x6_1).f1)
                                    replace p34 := eq_true p34
                                    replace q34 := eq_true q34
                                    have p37 : 0 ≤ (((rd_T34 t158 x6_1).f1) : Int) := of_decide_eq_true (by first | (with_reducible assumption) | assumption)
                                    have q37 : ((rd_T34 t158 x6_1).f1) < (a0.size : Int) := of_decide_eq_true (by first | (with_reducible assumption) | assumption)
                                    have hx37 := bt_at a0 ((rd_T34 t158 x6_1).f1)
                                    replace p37 := eq_true p37
                                    replace q37 := eq_true q37
                                    have p40 : 0 ≤ (((rd_T34 t158 x6_1).f1) : Int) := of_decide_eq_true (by first | (with_reducible assumption) | assumption)
                                    have q40 : ((rd_T34 t158 x6_1).f1) < (a0.size : Int) := of_decide_eq_true (by first | (with_reducible assumption) | assumption)
                                    have hx40 := bt_at a0 ((rd_T34 t158 x6_1).f1)
                                    replace p40 := eq_true p40
                                    replace q40 := eq_true q40
                                    have p166 : 0 ≤ ((ji54) : Int) := of_decide_eq_true (by first | (with_reducible assumption) | assumption)
                                    have q166 : (ji54) < (t158.length : Int) := of_decide_eq_true (by first | (with_reducible assumption) | assumption)
                                    obtain ⟨ad166, e166, hx166_0, hx166_1⟩ := at_T34 (Kd.R_reads' HO_3.out).2.2 (ji54) p166 q166
                                    obtain rfl : ad164 = ad166 := (by injection e166)
                                    replace p166 := eq_true p166
                                    replace q166 := eq_true q166
                                    go_wp2
                                    go_roundg k1
                                    case measure => have := HK1.out; omega
                                    case rel => exact ⟨(wrap64 (x6_1 + 1)), (by first | rfl | (simp; done) | (simp [*]; done)), H', ⟨by have := HK1.out; omega⟩, ⟨by (with_reducible repeat (first | apply Kd.R_alloc | apply Kd.R_drewN | apply Kd.R_drew)); exact HO_3.out⟩, ⟨by repeat (first | (with_reducible first | exact HB.out | apply below_alloc | apply pw_below_drewN | apply below_drew1) | exact HB.out)⟩⟩
                                · rw [if_neg c56] at H
                                  exact absurd H (by simp)
                              · rw [if_neg c55] at H
                                exact absurd H (by simp)
                            · rw [if_neg c53] at H
                              have c53b0 : decide (0 < x6_1) = false := decide_eq_false c53
                              clear c53
                              have H' := Aside0.mk H
                              clear H
                              obtain ⟨Ao60, co60, eo60⟩ := Kd.R_slice HO_3.out
                              subst eo60
                              have p164 : 0 ≤ (x6_1 : Int) := of_decide_eq_true (by first | (with_reducible assumption) | assumption)
                              have q164 : x6_1 < (t158.length : Int) := of_decide_eq_true (by first | (with_reducible assumption) | assumption)
                              obtain ⟨ad164, e164, hx164_0, hx164_1⟩ := at_T34 (Kd.R_reads' HO_3.out).2.2 x6_1 p164 q164
                              cases e164
                              replace p164 := eq_true p164
                              replace q164 := eq_true q164
                              have p34 : 0 ≤ (((rd_T34 t158 x6_1).f1) : Int) := of_decide_eq_true (by first | (with_reducible assumption) | assumption)
                              have q34 : ((rd_T34 t158 x6_1).f1) < (a0.size : Int) := of_decide_eq_true (by first | (with_reducible assumption) | assumption)
                              have hx34 := bt_at a0 ((rd_T34 t158 x6_1).f1)
                              replace p34 := eq_true p34
                              replace q34 := eq_true q34
                              have p37 : 0 ≤ (((rd_T34 t158 x6_1).f1) : Int) := of_decide_eq_true (by first | (with_reducible assumption) | assumption)
                              have q37 : ((rd_T34 t158 x6_1).f1) < (a0.size : Int) := of_decide_eq_true (by first | (with_reducible assumption) | assumption)
                              have hx37 := bt_at a0 ((rd_T34 t158 x6_1).f1)
                              replace p37 := eq_true p37
                              replace q37 := eq_true q37
                              have p40 : 0 ≤ (((rd_T34 t158 x6_1).f1) : Int) := of_decide_eq_true (by first | (with_reducible assumption) | assumption)
                              have q40 : ((rd_T34 t158 x6_1).f1) < (a0.size : Int) := of_decide_eq_true (by first | (with_reducible assumption) | assumption)
                              have hx40 := bt_at a0 ((rd_T34 t158 x6_1).f1)
                              replace p40 := eq_true p40
                              replace q40 := eq_true q40
                              go_wp2
                              go_roundg k1
                              case measure => have := HK1.out; omega
                              case rel => exact ⟨(wrap64 (x6_1 + 1)), (by first | rfl | (simp; done) | (simp [*]; done)), H', ⟨by have := HK1.out; omega⟩, ⟨by (with_reducible repeat (first | apply Kd.R_alloc | apply Kd.R_drewN | apply Kd.R_drew)); exact HO_3.out⟩, ⟨by repeat (first | (with_reducible first | exact HB.out | apply below_alloc | apply pw_below_drewN | apply below_drew1) | exact HB.out)⟩⟩
                    · rw [if_neg c33] at H
                      exact absurd H (by simp)
                  · rw [if_neg c32] at H
                    exact absurd H (by simp)
            · rw [if_neg c27] at H
              exact absurd H (by simp)
          · rw [if_neg c26] at H
            have c26b0 : decide (x6_1 < (t158.length : Int)) = false := decide_eq_false c26
            clear c26
            replace H := Option.bind_eq_some_iff.mp H
            obtain ⟨t167, A610, H⟩ := H
            replace H : (some t167) = some r := H
            have A61 := Aside0.mk A610
            clear A610
            obtain rfl := Option.some.inj H
            obtain ⟨Ao62, co62, eo62⟩ := Kd.R_slice HO_3.out
            subst eo62
            go_wp2_with (first | ((with_reducible refine gate_callee (f := 9) rfl ?_); refine goesL_ (some 99) rfl rfl Try.func9 (by kernel_rfl) rfl #[] rfl (by (try simp only [List.map_toArray, List.map_cons, List.map_nil]); first | done | rfl | (simp only [List.length_drop, List.length_take]; rfl)) ?_; (with_reducible refine (noonmarklaw07_alive.calls  t167 _ A61.out).mono ?_); rintro e w63 ⟨rfl, hb⟩; refine ⟨_, rfl, ?_⟩; have n0_ := Aside0.mk (Kd.R_below (by (with_reducible repeat (first | apply Kd.R_alloc | apply Kd.R_drewN | apply Kd.R_drew)); exact HO_3.out) hb); have n1_ := Aside0.mk (below_step (by repeat (first | (with_reducible first | exact HB.out | apply below_alloc | apply pw_below_drewN | apply below_drew1) | exact HB.out)) hb); clear HO_3; clear HB; have HO_3 := n0_; have HB := n1_; clear n0_ n1_; (try clear hb); (try clear hb2); (try clear hk); (try clear hi)))
            go_ret
            exact ⟨by first | rfl | (simp [errW_none, errW_some] <;> rfl) | (simp [*, errW_none, errW_some] <;> rfl), by repeat (first | (with_reducible first | exact HB.out | apply below_alloc | apply pw_below_drewN | apply below_drew1) | exact HB.out)⟩

/-- THE ONE PURE STATEMENT of noonmarklaw07_LexerRise: yours. -/
def noonmarklaw07_LexerRise.Pure : Prop := ∀ (a0 : ByteArray), a0.size ≤ 140737488351232 → ∃ k, noonmarklaw07_LexerRise.f k a0 = some true
theorem noonmarklaw07_LexerRise.walk (P : noonmarklaw07_LexerRise.Pure) (a0 : ByteArray) (w : World) (w0 : a0.size ≤ 140737488351232) :
    Calls Try.prog 5 #[.string a0] w fun e w' => e = .returned (.bool true) ∧ Below w.heap.size w w' := by
  obtain ⟨k, h⟩ := P a0 w0
  refine (noonmarklaw07_LexerRise.calls k a0 true w h).mono ?_
  rintro e w' ⟨rfl, hd⟩
  exact ⟨rfl, hd⟩

end Go.Proofs.Ytbhbjlohmalicaa.S
