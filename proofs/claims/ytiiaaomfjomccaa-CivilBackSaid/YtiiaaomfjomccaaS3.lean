-- Written by a program of this session for this claim (it follows the print's forms). Not trusted: Lean checks it.
import Derived.Test.YtiiaaomfjomccaaS0
import Derived.Test.YtiiaaomfjomccaaS1
namespace Go.Proofs.Ytiiaaomfjomccaa.S
open Go.RowKit Go.Proofs.YtiiaaomfjomccaaW.PrintWords Go.Proofs.YtiiaaomfjomccaaW.PrintLast Go.Proofs.YtiiaaomfjomccaaW.PrintMore
attribute [local go_sem] max2_int min2_int max_two min_two max_three min_three max_four min_four   -- for this text's walks alone
set_option linter.unusedVariables false
set_option linter.unusedSimpArgs false

/-! ### noonmarklaw04_CivilYears: function 6 -/
mutual
def noonmarklaw04_CivilYears.j0 : Nat → Int → Bool → Option (Bool)
  | 0, _, _ => none
  | k + 1, x0, x17 => if x17 = true then ((noonmarklaw04_alive.f).bind fun t137 => (some t137)) else ((civil_Days.f x0 1 1).bind fun bt138 => ((civil_Days.f x0 12 31).bind fun bt140 => ((civil_Days.f (wrap64 (x0 + 400)) 1 1).bind fun bt142 => ((civil_Leap.f x0).bind fun t144 => (if t144 = true then (noonmarklaw04_CivilYears.j1 k x0 bt138.1 bt138.2 bt140.1 bt140.2 bt142.1 bt142.2 366) else (noonmarklaw04_CivilYears.j1 k x0 bt138.1 bt138.2 bt140.1 bt140.2 bt142.1 bt142.2 365))))))
def noonmarklaw04_CivilYears.j1 : Nat → Int → Int → Int → Int → Int → Int → Int → Int → Option (Bool)
  | 0, _, _, _, _, _, _, _, _ => none
  | k + 1, x0, x3, x4, x5, x6, x7, x8, x9 => noonmarklaw04_CivilYears.l0 k x0 x3 x4 x5 x6 x7 x8 x9 0 1
def noonmarklaw04_CivilYears.l0 : Nat → Int → Int → Int → Int → Int → Int → Int → Int → Int → Int → Option (Bool)
  | 0, _, _, _, _, _, _, _, _, _, _ => none
  | k + 1, x0, x3, x4, x5, x6, x7, x8, x9, x10, x11 => if x11 ≤ 12 then ((civil_Long.f x0 x11).bind fun t145 => (noonmarklaw04_CivilYears.l0 k x0 x3 x4 x5 x6 x7 x8 x9 (wrap64 (x10 + t145)) (wrap64 (x11 + 1)))) else (if x4 = 0 then (if x6 = 0 then (if x8 = 0 then (if (wrap64 ((wrap64 (x5 - x3)) + 1)) = x9 then (if (wrap64 (x7 - x3)) = 146097 then (if x10 = x9 then ((noonmarklaw04_alive.f).bind fun t146 => (some t146)) else (some false)) else (some false)) else (some false)) else (some false)) else (some false)) else (some false))
end
def noonmarklaw04_CivilYears.f (k : Nat) (a0 : Int) : Option (Bool) := if a0 < (-9999) then (noonmarklaw04_CivilYears.j0 k a0 true) else (noonmarklaw04_CivilYears.j0 k a0 (decide (a0 > 9599)))
theorem noonmarklaw04_CivilYears.mono_l : ∀ k, (∀ y0 y1, LeO (noonmarklaw04_CivilYears.j0 k y0 y1) (noonmarklaw04_CivilYears.j0 (k + 1) y0 y1)) ∧ (∀ y0 y1 y2 y3 y4 y5 y6 y7, LeO (noonmarklaw04_CivilYears.j1 k y0 y1 y2 y3 y4 y5 y6 y7) (noonmarklaw04_CivilYears.j1 (k + 1) y0 y1 y2 y3 y4 y5 y6 y7)) ∧ (∀ y0 y1 y2 y3 y4 y5 y6 y7 y8 y9, LeO (noonmarklaw04_CivilYears.l0 k y0 y1 y2 y3 y4 y5 y6 y7 y8 y9) (noonmarklaw04_CivilYears.l0 (k + 1) y0 y1 y2 y3 y4 y5 y6 y7 y8 y9))
  | 0 => ⟨fun _ _ r h => by simp [noonmarklaw04_CivilYears.j0] at h, fun _ _ _ _ _ _ _ _ r h => by simp [noonmarklaw04_CivilYears.j1] at h, fun _ _ _ _ _ _ _ _ _ _ r h => by simp [noonmarklaw04_CivilYears.l0] at h⟩
  | k + 1 => by
    obtain ⟨ih0, ih1, ih2⟩ := noonmarklaw04_CivilYears.mono_l k
    refine ⟨?_, ?_, ?_⟩
    · intro y0 y1
      unfold noonmarklaw04_CivilYears.j0
      repeat' first
      | (with_reducible exact ih0 _ _)
      | (with_reducible exact ih1 _ _ _ _ _ _ _ _)
      | (with_reducible exact ih2 _ _ _ _ _ _ _ _ _ _)
      | (with_reducible exact LeO.refl _)
      | (with_reducible exact LeO.none _)
      | (with_reducible refine LeO.ite ?_ ?_)
      | (with_reducible refine LeO.bind ?_ (fun _ => ?_))
      | exact ih0 _ _
      | exact ih1 _ _ _ _ _ _ _ _
      | exact ih2 _ _ _ _ _ _ _ _ _ _
      | exact LeO.none _
      | refine LeO.ite ?_ ?_
      | refine LeO.bind ?_ (fun _ => ?_)
    · intro y0 y1 y2 y3 y4 y5 y6 y7
      unfold noonmarklaw04_CivilYears.j1
      repeat' first
      | (with_reducible exact ih0 _ _)
      | (with_reducible exact ih1 _ _ _ _ _ _ _ _)
      | (with_reducible exact ih2 _ _ _ _ _ _ _ _ _ _)
      | (with_reducible exact LeO.refl _)
      | (with_reducible exact LeO.none _)
      | (with_reducible refine LeO.ite ?_ ?_)
      | (with_reducible refine LeO.bind ?_ (fun _ => ?_))
      | exact ih0 _ _
      | exact ih1 _ _ _ _ _ _ _ _
      | exact ih2 _ _ _ _ _ _ _ _ _ _
      | exact LeO.none _
      | refine LeO.ite ?_ ?_
      | refine LeO.bind ?_ (fun _ => ?_)
    · intro y0 y1 y2 y3 y4 y5 y6 y7 y8 y9
      unfold noonmarklaw04_CivilYears.l0
      repeat' first
      | (with_reducible exact ih0 _ _)
      | (with_reducible exact ih1 _ _ _ _ _ _ _ _)
      | (with_reducible exact ih2 _ _ _ _ _ _ _ _ _ _)
      | (with_reducible exact LeO.refl _)
      | (with_reducible exact LeO.none _)
      | (with_reducible refine LeO.ite ?_ ?_)
      | (with_reducible refine LeO.bind ?_ (fun _ => ?_))
      | exact ih0 _ _
      | exact ih1 _ _ _ _ _ _ _ _
      | exact ih2 _ _ _ _ _ _ _ _ _ _
      | exact LeO.none _
      | refine LeO.ite ?_ ?_
      | refine LeO.bind ?_ (fun _ => ?_)
theorem noonmarklaw04_CivilYears.mono : ∀ a0 k, LeO (noonmarklaw04_CivilYears.f k a0) (noonmarklaw04_CivilYears.f (k + 1) a0) := by
  intro a0 k
  obtain ⟨ih0, ih1, ih2⟩ := noonmarklaw04_CivilYears.mono_l k
  unfold noonmarklaw04_CivilYears.f
  repeat' first
      | (with_reducible exact ih0 _ _)
      | (with_reducible exact ih1 _ _ _ _ _ _ _ _)
      | (with_reducible exact ih2 _ _ _ _ _ _ _ _ _ _)
      | (with_reducible exact LeO.refl _)
      | (with_reducible exact LeO.none _)
      | (with_reducible refine LeO.ite ?_ ?_)
      | (with_reducible refine LeO.bind ?_ (fun _ => ?_))
      | exact ih0 _ _
      | exact ih1 _ _ _ _ _ _ _ _
      | exact ih2 _ _ _ _ _ _ _ _ _ _
      | exact LeO.none _
      | refine LeO.ite ?_ ?_
      | refine LeO.bind ?_ (fun _ => ?_)
set_option maxHeartbeats 8000000 in
set_option maxRecDepth 100000 in
theorem noonmarklaw04_CivilYears.calls (k : Nat) (a0 : Int) (r : Bool) (w : World) (h : noonmarklaw04_CivilYears.f k a0 = some r) :
    Calls Try.prog 6 #[.int .i64 a0] w fun e w' => e = .returned (.bool r) ∧ Drawn0 w w' := by
  have H : (if a0 < (-9999) then (noonmarklaw04_CivilYears.j0 k a0 true) else (noonmarklaw04_CivilYears.j0 k a0 (decide (a0 > 9599)))) = some r := h
  clear h
  have HC2 := Aside0.mk H
  clear H
  go_enter Try.func6, Try.ntmps6
  go_upto_region 1 with (fail)
  go_cut [17] (fun v17 wc => ∃ (kq : Nat) (x17_1 : Bool), v17 = .bool x17_1 ∧ Aside0 (noonmarklaw04_CivilYears.j0 kq a0 x17_1 = some r) ∧ Aside0 (kq ≤ k) ∧ Drawn0 w wc)
  case first =>
    have H := HC2.out
    clear HC2
    by_cases c3 : a0 < (-9999)
    · rw [if_pos c3] at H
      have c3b0 : decide (a0 < (-9999)) = true := decide_eq_true c3
      clear c3
      (first | rw [c3b0] | (simp only [i64_w, i32_w]; rw [c3b0]) | skip)
      have H' := Aside0.mk H
      clear H
      go_wp2
      go_meet
      case rel => exact ⟨_, (true), (by first | rfl | (simp; done) | (simp [*]; done)), H', ⟨by first | omega | exact Nat.le_refl _⟩, by repeat (first | exact Drawn0.refl _ | apply Drawn0.step)⟩
    · rw [if_neg c3] at H
      have c3b0 : decide (a0 < (-9999)) = false := decide_eq_false c3
      clear c3
      (first | rw [c3b0] | (simp only [i64_w, i32_w]; rw [c3b0]) | skip)
      have H' := Aside0.mk H
      clear H
      go_wp2
      go_meet
      case rel => exact ⟨_, (decide (a0 > 9599)), (by first | rfl | (simp; done) | (simp [*]; done)), H', ⟨by first | omega | exact Nat.le_refl _⟩, by repeat (first | exact Drawn0.refl _ | apply Drawn0.step)⟩
  case rest =>
    clear HC2
    try clear p2
    try clear c3
    try clear c3b0
    obtain ⟨kq, x17_1, rfl, HA, HJ1, ⟨mc1, rfl⟩⟩ := hcut
    cases kq with
    | zero => exact absurd HA.out (by simp [noonmarklaw04_CivilYears.j0])
    | succ kj1 =>
      have H := HA.out
      clear HA
      simp only [noonmarklaw04_CivilYears.j0] at H
      by_cases c4 : x17_1 = true
      · subst c4
        have H1 : ((noonmarklaw04_alive.f).bind fun t137 => (some t137)) = some r := by rw [if_pos rfl] at H; exact H
        clear H
        have H := H1
        clear H1
        replace H := Option.bind_eq_some_iff.mp H
        obtain ⟨t137, A50, H⟩ := H
        replace H : (some t137) = some r := H
        have A5 := Aside0.mk A50
        clear A50
        obtain rfl := Option.some.inj H
        go_wp2_with (first | ((with_reducible refine gate_callee (f := 16) rfl ?_); refine goesL_ (some 18) rfl rfl Try.func16 (by kernel_rfl) rfl #[] rfl (by (try simp only [List.map_toArray, List.map_cons, List.map_nil]); first | done | rfl | (simp only [List.length_drop, List.length_take]; rfl)) ?_; (with_reducible refine (noonmarklaw04_alive.calls  t137 _ A5.out).mono ?_); rintro e w' ⟨rfl, ⟨nd, rfl⟩⟩; refine ⟨_, rfl, ?_⟩))
        go_ret
        exact ⟨by first | rfl | (simp; done) | (simp [*]; done), by repeat (first | exact Drawn0.refl _ | apply Drawn0.step)⟩
      · replace c4 := Bool.eq_false_iff.mpr c4
        subst c4
        have H1 : ((civil_Days.f a0 1 1).bind fun bt138 => ((civil_Days.f a0 12 31).bind fun bt140 => ((civil_Days.f (wrap64 (a0 + 400)) 1 1).bind fun bt142 => ((civil_Leap.f a0).bind fun t144 => (if t144 = true then (noonmarklaw04_CivilYears.j1 kj1 a0 bt138.1 bt138.2 bt140.1 bt140.2 bt142.1 bt142.2 366) else (noonmarklaw04_CivilYears.j1 kj1 a0 bt138.1 bt138.2 bt140.1 bt140.2 bt142.1 bt142.2 365)))))) = some r := by rw [if_neg (show ¬ (false = true) by decide)] at H; exact H
        clear H
        have H := H1
        clear H1
        replace H := Option.bind_eq_some_iff.mp H
        obtain ⟨⟨t138, t139⟩, A60, H⟩ := H
        replace H : ((civil_Days.f a0 12 31).bind fun bt140 => ((civil_Days.f (wrap64 (a0 + 400)) 1 1).bind fun bt142 => ((civil_Leap.f a0).bind fun t144 => (if t144 = true then (noonmarklaw04_CivilYears.j1 kj1 a0 t138 t139 bt140.1 bt140.2 bt142.1 bt142.2 366) else (noonmarklaw04_CivilYears.j1 kj1 a0 t138 t139 bt140.1 bt140.2 bt142.1 bt142.2 365))))) = some r := H
        have A6 := Aside0.mk A60
        clear A60
        replace H := Option.bind_eq_some_iff.mp H
        obtain ⟨⟨t140, t141⟩, A70, H⟩ := H
        replace H : ((civil_Days.f (wrap64 (a0 + 400)) 1 1).bind fun bt142 => ((civil_Leap.f a0).bind fun t144 => (if t144 = true then (noonmarklaw04_CivilYears.j1 kj1 a0 t138 t139 t140 t141 bt142.1 bt142.2 366) else (noonmarklaw04_CivilYears.j1 kj1 a0 t138 t139 t140 t141 bt142.1 bt142.2 365)))) = some r := H
        have A7 := Aside0.mk A70
        clear A70
        replace H := Option.bind_eq_some_iff.mp H
        obtain ⟨⟨t142, t143⟩, A80, H⟩ := H
        replace H : ((civil_Leap.f a0).bind fun t144 => (if t144 = true then (noonmarklaw04_CivilYears.j1 kj1 a0 t138 t139 t140 t141 t142 t143 366) else (noonmarklaw04_CivilYears.j1 kj1 a0 t138 t139 t140 t141 t142 t143 365))) = some r := H
        have A8 := Aside0.mk A80
        clear A80
        replace H := Option.bind_eq_some_iff.mp H
        obtain ⟨t144, A90, H⟩ := H
        replace H : (if t144 = true then (noonmarklaw04_CivilYears.j1 kj1 a0 t138 t139 t140 t141 t142 t143 366) else (noonmarklaw04_CivilYears.j1 kj1 a0 t138 t139 t140 t141 t142 t143 365)) = some r := H
        have A9 := Aside0.mk A90
        clear A90
        have HC10 := Aside0.mk H
        clear H
        go_upto_if 36 with (first | ((with_reducible refine gate_callee (f := 17) rfl ?_); refine goesL_ (some 21) rfl rfl Try.func17 (by kernel_rfl) rfl #[.int .i64 a0, .int .i64 1, .int .i64 1] rfl (by (try simp only [List.map_toArray, List.map_cons, List.map_nil]); first | done | rfl | (simp only [List.length_drop, List.length_take]; rfl)) ?_; (with_reducible refine (civil_Days.calls a0 1 1 t138 t139 _ A6.out).mono ?_); rintro e w' ⟨rfl, ⟨nd, rfl⟩⟩; refine ⟨_, rfl, ?_⟩) | ((with_reducible refine gate_callee (f := 17) rfl ?_); refine goesL_ (some 26) rfl rfl Try.func17 (by kernel_rfl) rfl #[.int .i64 a0, .int .i64 12, .int .i64 31] rfl (by (try simp only [List.map_toArray, List.map_cons, List.map_nil]); first | done | rfl | (simp only [List.length_drop, List.length_take]; rfl)) ?_; (with_reducible refine (civil_Days.calls a0 12 31 t140 t141 _ A7.out).mono ?_); rintro e w' ⟨rfl, ⟨nd, rfl⟩⟩; refine ⟨_, rfl, ?_⟩) | ((with_reducible refine gate_callee (f := 17) rfl ?_); refine goesL_ (some 32) rfl rfl Try.func17 (by kernel_rfl) rfl #[.int .i64 (wrap64 (a0 + 400)), .int .i64 1, .int .i64 1] rfl (by (try simp only [List.map_toArray, List.map_cons, List.map_nil]); first | done | rfl | (simp only [List.length_drop, List.length_take]; rfl)) ?_; (with_reducible refine (civil_Days.calls (wrap64 (a0 + 400)) 1 1 t142 t143 _ A8.out).mono ?_); rintro e w' ⟨rfl, ⟨nd, rfl⟩⟩; refine ⟨_, rfl, ?_⟩) | ((with_reducible refine gate_callee (f := 10) rfl ?_); refine goesL_ (some 36) rfl rfl Try.func10 (by kernel_rfl) rfl #[.int .i64 a0] rfl (by (try simp only [List.map_toArray, List.map_cons, List.map_nil]); first | done | rfl | (simp only [List.length_drop, List.length_take]; rfl)) ?_; (with_reducible refine (civil_Leap.calls a0 t144 _ A9.out).mono ?_); rintro e w' ⟨rfl, ⟨nd, rfl⟩⟩; refine ⟨_, rfl, ?_⟩))
        (try simp only [Act.put, List.setIfInBounds_toArray, List.set_cons_zero, List.set_cons_succ])
        go_cut [9] (fun v9 wc => ∃ (kq : Nat) (x9_9 : Int), v9 = .int .i64 x9_9 ∧ Aside0 (noonmarklaw04_CivilYears.j1 kq a0 t138 t139 t140 t141 t142 t143 x9_9 = some r) ∧ Aside0 (kq ≤ kj1) ∧ Drawn0 w wc)
        case first =>
          have H := HC10.out
          clear HC10
          by_cases c11 : t144 = true
          · subst c11
            have H1 : (noonmarklaw04_CivilYears.j1 kj1 a0 t138 t139 t140 t141 t142 t143 366) = some r := by rw [if_pos rfl] at H; exact H
            clear H
            have H := H1
            clear H1
            have H' := Aside0.mk H
            clear H
            go_wp2
            go_meet
            case rel => exact ⟨_, (366), (by first | rfl | (simp; done) | (simp [*]; done)), H', ⟨by have := HJ1.out; first | omega | exact Nat.le_refl _⟩, by repeat (first | exact Drawn0.refl _ | apply Drawn0.step)⟩
          · replace c11 := Bool.eq_false_iff.mpr c11
            subst c11
            have H1 : (noonmarklaw04_CivilYears.j1 kj1 a0 t138 t139 t140 t141 t142 t143 365) = some r := by rw [if_neg (show ¬ (false = true) by decide)] at H; exact H
            clear H
            have H := H1
            clear H1
            have H' := Aside0.mk H
            clear H
            go_wp2
            go_meet
            case rel => exact ⟨_, (365), (by first | rfl | (simp; done) | (simp [*]; done)), H', ⟨by have := HJ1.out; first | omega | exact Nat.le_refl _⟩, by repeat (first | exact Drawn0.refl _ | apply Drawn0.step)⟩
        case rest =>
          clear HC10
          try clear c1
          try clear p2
          try clear c3
          try clear c3b0
          try clear c4
          try clear c6
          try clear p6
          try clear c10
          try clear c11
          try clear p2
          obtain ⟨kq, x9_9, rfl, HA, HJ9, ⟨mc9, rfl⟩⟩ := hcut
          cases kq with
          | zero => exact absurd HA.out (by simp [noonmarklaw04_CivilYears.j1])
          | succ kj9 =>
            have H := HA.out
            clear HA
            simp only [noonmarklaw04_CivilYears.j1] at H
            have H' := Aside0.mk H
            clear H
            go_wp2
            go_loopg [10, 11] kj9 (fun kq v10 v11 w' => ∃ (x10_3 : Int) (x11_3 : Int), v10 = .int .i64 x10_3 ∧ v11 = .int .i64 x11_3 ∧ Aside0 (noonmarklaw04_CivilYears.l0 kq a0 t138 t139 t140 t141 t142 t143 x9_9 x10_3 x11_3 = some r) ∧ Aside0 (kq ≤ kj9) ∧ Drawn0 w w')
            case atStart => exact ⟨(0), (1), (by first | rfl | (simp; done) | (simp [*]; done)), (by first | rfl | (simp; done) | (simp [*]; done)), H', ⟨Nat.le_refl _⟩, by repeat (first | exact Drawn0.refl _ | apply Drawn0.step)⟩
            case round =>
              clear H'
              try clear c1
              try clear p2
              try clear c3
              try clear c3b0
              try clear c4
              try clear c6
              try clear p6
              try clear c9
              try clear c10
              try clear c11
              try clear p2
              try clear p6
              obtain ⟨x10_3, x11_3, rfl, rfl, HA, HK3, ⟨m3, rfl⟩⟩ := hrel
              cases gk with
              | zero => exact absurd HA.out (by simp [noonmarklaw04_CivilYears.l0])
              | succ k3 =>
                have H := HA.out
                clear HA
                simp only [noonmarklaw04_CivilYears.l0] at H
                by_cases c12 : x11_3 ≤ 12
                · rw [if_pos c12] at H
                  have c12b0 : decide (x11_3 ≤ 12) = true := decide_eq_true c12
                  clear c12
                  replace H := Option.bind_eq_some_iff.mp H
                  obtain ⟨t145, A130, H⟩ := H
                  replace H : (noonmarklaw04_CivilYears.l0 k3 a0 t138 t139 t140 t141 t142 t143 x9_9 (wrap64 (x10_3 + t145)) (wrap64 (x11_3 + 1))) = some r := H
                  have A13 := Aside0.mk A130
                  clear A130
                  have H' := Aside0.mk H
                  clear H
                  go_wp2_with (first | ((with_reducible refine gate_callee (f := 12) rfl ?_); refine goesL_ (some 44) rfl rfl Try.func12 (by kernel_rfl) rfl #[.int .i64 a0, .int .i64 x11_3] rfl (by (try simp only [List.map_toArray, List.map_cons, List.map_nil]); first | done | rfl | (simp only [List.length_drop, List.length_take]; rfl)) ?_; (with_reducible refine (civil_Long.calls a0 x11_3 t145 _ A13.out).mono ?_); rintro e w' ⟨rfl, ⟨nd, rfl⟩⟩; refine ⟨_, rfl, ?_⟩))
                  go_roundg k3
                  case measure => have := HJ1.out; have := HJ9.out; have := HK3.out; omega
                  case rel => exact ⟨(wrap64 (x10_3 + t145)), (wrap64 (x11_3 + 1)), (by first | rfl | (simp; done) | (simp [*]; done)), (by first | rfl | (simp; done) | (simp [*]; done)), H', ⟨by have := HJ1.out; have := HJ9.out; have := HK3.out; omega⟩, by repeat (first | exact Drawn0.refl _ | apply Drawn0.step)⟩
                · rw [if_neg c12] at H
                  have c12b0 : decide (x11_3 ≤ 12) = false := decide_eq_false c12
                  clear c12
                  by_cases c14 : t139 = 0
                  · rw [if_pos c14] at H
                    have c14b0 : (t139 == 0) = true := beq_iff_eq.mpr c14
                    have c14b1 : (t139 != 0) = false := bne_eq_false_iff_eq.mpr c14
                    clear c14
                    by_cases c15 : t141 = 0
                    · rw [if_pos c15] at H
                      have c15b0 : (t141 == 0) = true := beq_iff_eq.mpr c15
                      have c15b1 : (t141 != 0) = false := bne_eq_false_iff_eq.mpr c15
                      clear c15
                      by_cases c16 : t143 = 0
                      · rw [if_pos c16] at H
                        have c16b0 : (t143 == 0) = true := beq_iff_eq.mpr c16
                        have c16b1 : (t143 != 0) = false := bne_eq_false_iff_eq.mpr c16
                        clear c16
                        by_cases c17 : (wrap64 ((wrap64 (t140 - t138)) + 1)) = x9_9
                        · rw [if_pos c17] at H
                          have c17b0 : ((wrap64 ((wrap64 (t140 - t138)) + 1)) == x9_9) = true := beq_iff_eq.mpr c17
                          have c17b1 : ((wrap64 ((wrap64 (t140 - t138)) + 1)) != x9_9) = false := bne_eq_false_iff_eq.mpr c17
                          clear c17
                          by_cases c18 : (wrap64 (t142 - t138)) = 146097
                          · rw [if_pos c18] at H
                            have c18b0 : ((wrap64 (t142 - t138)) == 146097) = true := beq_iff_eq.mpr c18
                            have c18b1 : ((wrap64 (t142 - t138)) != 146097) = false := bne_eq_false_iff_eq.mpr c18
                            clear c18
                            by_cases c19 : x10_3 = x9_9
                            · rw [if_pos c19] at H
                              have c19b0 : (x10_3 == x9_9) = true := beq_iff_eq.mpr c19
                              have c19b1 : (x10_3 != x9_9) = false := bne_eq_false_iff_eq.mpr c19
                              clear c19
                              replace H := Option.bind_eq_some_iff.mp H
                              obtain ⟨t146, A200, H⟩ := H
                              replace H : (some t146) = some r := H
                              have A20 := Aside0.mk A200
                              clear A200
                              obtain rfl := Option.some.inj H
                              go_wp2_with (first | (go_at_call 16; (with_reducible refine (noonmarklaw04_alive.calls  t146 _ A20.out).mono ?_); rintro e w' ⟨rfl, ⟨nd, rfl⟩⟩))
                              go_ret
                              exact ⟨by first | rfl | (simp; done) | (simp [*]; done), by repeat (first | exact Drawn0.refl _ | apply Drawn0.step)⟩
                            · rw [if_neg c19] at H
                              have c19b0 : (x10_3 == x9_9) = false := beq_eq_false_iff_ne.mpr c19
                              have c19b1 : (x10_3 != x9_9) = true := bne_iff_ne.mpr c19
                              obtain rfl := Option.some.inj H
                              go_wp2
                              go_ret
                              exact ⟨by first | rfl | (simp; done) | (simp [*]; done), by repeat (first | exact Drawn0.refl _ | apply Drawn0.step)⟩
                          · rw [if_neg c18] at H
                            have c18b0 : ((wrap64 (t142 - t138)) == 146097) = false := beq_eq_false_iff_ne.mpr c18
                            have c18b1 : ((wrap64 (t142 - t138)) != 146097) = true := bne_iff_ne.mpr c18
                            obtain rfl := Option.some.inj H
                            go_wp2
                            go_ret
                            exact ⟨by first | rfl | (simp; done) | (simp [*]; done), by repeat (first | exact Drawn0.refl _ | apply Drawn0.step)⟩
                        · rw [if_neg c17] at H
                          have c17b0 : ((wrap64 ((wrap64 (t140 - t138)) + 1)) == x9_9) = false := beq_eq_false_iff_ne.mpr c17
                          have c17b1 : ((wrap64 ((wrap64 (t140 - t138)) + 1)) != x9_9) = true := bne_iff_ne.mpr c17
                          obtain rfl := Option.some.inj H
                          go_wp2
                          go_ret
                          exact ⟨by first | rfl | (simp; done) | (simp [*]; done), by repeat (first | exact Drawn0.refl _ | apply Drawn0.step)⟩
                      · rw [if_neg c16] at H
                        have c16b0 : (t143 == 0) = false := beq_eq_false_iff_ne.mpr c16
                        have c16b1 : (t143 != 0) = true := bne_iff_ne.mpr c16
                        obtain rfl := Option.some.inj H
                        go_wp2
                        go_ret
                        exact ⟨by first | rfl | (simp; done) | (simp [*]; done), by repeat (first | exact Drawn0.refl _ | apply Drawn0.step)⟩
                    · rw [if_neg c15] at H
                      have c15b0 : (t141 == 0) = false := beq_eq_false_iff_ne.mpr c15
                      have c15b1 : (t141 != 0) = true := bne_iff_ne.mpr c15
                      obtain rfl := Option.some.inj H
                      go_wp2
                      go_ret
                      exact ⟨by first | rfl | (simp; done) | (simp [*]; done), by repeat (first | exact Drawn0.refl _ | apply Drawn0.step)⟩
                  · rw [if_neg c14] at H
                    have c14b0 : (t139 == 0) = false := beq_eq_false_iff_ne.mpr c14
                    have c14b1 : (t139 != 0) = true := bne_iff_ne.mpr c14
                    obtain rfl := Option.some.inj H
                    go_wp2
                    go_ret
                    exact ⟨by first | rfl | (simp; done) | (simp [*]; done), by repeat (first | exact Drawn0.refl _ | apply Drawn0.step)⟩

/-- THE ONE PURE STATEMENT of noonmarklaw04_CivilYears: yours. -/
def noonmarklaw04_CivilYears.Pure : Prop := ∀ (a0 : Int), (Lit.int .i64 a0).wf = true → ∃ k, noonmarklaw04_CivilYears.f k a0 = some true
theorem noonmarklaw04_CivilYears.walk (P : noonmarklaw04_CivilYears.Pure) (a0 : Int) (w : World) (w0 : (Lit.int .i64 a0).wf = true) :
    Calls Try.prog 6 #[.int .i64 a0] w fun e w' => e = .returned (.bool true) ∧ Below w.heap.size w w' := by
  obtain ⟨k, h⟩ := P a0 w0
  refine (noonmarklaw04_CivilYears.calls k a0 true w h).mono ?_
  rintro e w' ⟨rfl, hd⟩
  exact ⟨rfl, hd.below⟩

/-! ### civil_Clock: function 20 -/
def civil_Clock.f (a0 : Int) : Option (Int × Int) := if (Int.tmod a0 86400) < 0 then (some (wrap64 ((wrap64 (Int.tdiv a0 86400)) - 1), wrap64 (a0 - (wrap64 ((wrap64 ((wrap64 (Int.tdiv a0 86400)) - 1)) * 86400))))) else (some (wrap64 (Int.tdiv a0 86400), wrap64 (a0 - (wrap64 ((wrap64 (Int.tdiv a0 86400)) * 86400)))))
set_option maxHeartbeats 8000000 in
set_option maxRecDepth 100000 in
theorem civil_Clock.calls (a0 : Int) (r1 : Int) (r2 : Int) (w : World) (h : civil_Clock.f a0 = some (r1, r2)) :
    Calls Try.prog 20 #[.int .i64 a0] w fun e w' => e = .returned (.tuple #[.int .i64 r1, .int .i64 r2]) ∧ Drawn0 w w' := by
  have H : (if (Int.tmod a0 86400) < 0 then (some (wrap64 ((wrap64 (Int.tdiv a0 86400)) - 1), wrap64 (a0 - (wrap64 ((wrap64 ((wrap64 (Int.tdiv a0 86400)) - 1)) * 86400))))) else (some (wrap64 (Int.tdiv a0 86400), wrap64 (a0 - (wrap64 ((wrap64 (Int.tdiv a0 86400)) * 86400)))))) = some (r1, r2) := h
  clear h
  by_cases c2 : (Int.tmod a0 86400) < 0
  · rw [if_pos c2] at H
    have c2b0 : decide ((Int.tmod a0 86400) < 0) = true := decide_eq_true c2
    clear c2
    simp only [Option.some.injEq, Prod.mk.injEq] at H
    obtain ⟨rfl, rfl⟩ := H
    go_enter Try.func20, Try.ntmps20
    go_wp2
    go_ret2
    exact ⟨by first | rfl | (simp; done) | (simp [*]; done), by repeat (first | exact Drawn0.refl _ | apply Drawn0.step)⟩
  · rw [if_neg c2] at H
    have c2b0 : decide ((Int.tmod a0 86400) < 0) = false := decide_eq_false c2
    clear c2
    simp only [Option.some.injEq, Prod.mk.injEq] at H
    obtain ⟨rfl, rfl⟩ := H
    go_enter Try.func20, Try.ntmps20
    go_wp2
    go_ret2
    exact ⟨by first | rfl | (simp; done) | (simp [*]; done), by repeat (first | exact Drawn0.refl _ | apply Drawn0.step)⟩

/-! ### noonmarkref04_Clock: function 21 -/
def noonmarkref04_Clock.f (a0 : Int) : Option (Int × Int) := if (Int.tmod a0 86400) < 0 then (some (wrap64 ((wrap64 (Int.tdiv a0 86400)) - 1), wrap64 ((Int.tmod a0 86400) + 86400))) else (some (wrap64 (Int.tdiv a0 86400), Int.tmod a0 86400))
set_option maxHeartbeats 8000000 in
set_option maxRecDepth 100000 in
theorem noonmarkref04_Clock.calls (a0 : Int) (r1 : Int) (r2 : Int) (w : World) (h : noonmarkref04_Clock.f a0 = some (r1, r2)) :
    Calls Try.prog 21 #[.int .i64 a0] w fun e w' => e = .returned (.tuple #[.int .i64 r1, .int .i64 r2]) ∧ Drawn0 w w' := by
  have H : (if (Int.tmod a0 86400) < 0 then (some (wrap64 ((wrap64 (Int.tdiv a0 86400)) - 1), wrap64 ((Int.tmod a0 86400) + 86400))) else (some (wrap64 (Int.tdiv a0 86400), Int.tmod a0 86400))) = some (r1, r2) := h
  clear h
  by_cases c2 : (Int.tmod a0 86400) < 0
  · rw [if_pos c2] at H
    have c2b0 : decide ((Int.tmod a0 86400) < 0) = true := decide_eq_true c2
    clear c2
    simp only [Option.some.injEq, Prod.mk.injEq] at H
    obtain ⟨rfl, rfl⟩ := H
    go_enter Try.func21, Try.ntmps21
    go_wp2
    go_ret2
    exact ⟨by first | rfl | (simp; done) | (simp [*]; done), by repeat (first | exact Drawn0.refl _ | apply Drawn0.step)⟩
  · rw [if_neg c2] at H
    have c2b0 : decide ((Int.tmod a0 86400) < 0) = false := decide_eq_false c2
    clear c2
    simp only [Option.some.injEq, Prod.mk.injEq] at H
    obtain ⟨rfl, rfl⟩ := H
    go_enter Try.func21, Try.ntmps21
    go_wp2
    go_ret2
    exact ⟨by first | rfl | (simp; done) | (simp [*]; done), by repeat (first | exact Drawn0.refl _ | apply Drawn0.step)⟩

/-! ### noonmarkref04_Week: function 22 -/
def noonmarkref04_Week.f (a0 : Int) : Option (Int) := some (Int.tmod (wrap64 ((Int.tmod a0 7) + 11)) 7)
set_option maxHeartbeats 8000000 in
set_option maxRecDepth 100000 in
theorem noonmarkref04_Week.calls (a0 : Int) (r : Int) (w : World) (h : noonmarkref04_Week.f a0 = some r) :
    Calls Try.prog 22 #[.int .i64 a0] w fun e w' => e = .returned (.int .i64 r) ∧ Drawn0 w w' := by
  have H : (some (Int.tmod (wrap64 ((Int.tmod a0 7) + 11)) 7)) = some r := h
  clear h
  obtain rfl := Option.some.inj H
  go_enter Try.func22, Try.ntmps22
  go_wp2
  go_ret
  exact ⟨by first | rfl | (simp; done) | (simp [*]; done), by repeat (first | exact Drawn0.refl _ | apply Drawn0.step)⟩

/-! ### noonmarklaw04_CivilClocks: function 7 -/
def noonmarklaw04_CivilClocks.f (a0 : Int) : Option (Bool) := (civil_Clock.f a0).bind fun bt147 => ((noonmarkref04_Clock.f a0).bind fun bt149 => ((civil_Week.f a0).bind fun t151 => ((noonmarkref04_Week.f a0).bind fun t152 => (if t151 = t152 then (if bt147.1 = bt149.1 then (if bt147.2 = bt149.2 then ((noonmarklaw04_alive.f).bind fun t153 => (some t153)) else (some false)) else (some false)) else (some false)))))
set_option maxHeartbeats 8000000 in
set_option maxRecDepth 100000 in
theorem noonmarklaw04_CivilClocks.calls (a0 : Int) (r : Bool) (w : World) (h : noonmarklaw04_CivilClocks.f a0 = some r) :
    Calls Try.prog 7 #[.int .i64 a0] w fun e w' => e = .returned (.bool r) ∧ Drawn0 w w' := by
  have H : ((civil_Clock.f a0).bind fun bt147 => ((noonmarkref04_Clock.f a0).bind fun bt149 => ((civil_Week.f a0).bind fun t151 => ((noonmarkref04_Week.f a0).bind fun t152 => (if t151 = t152 then (if bt147.1 = bt149.1 then (if bt147.2 = bt149.2 then ((noonmarklaw04_alive.f).bind fun t153 => (some t153)) else (some false)) else (some false)) else (some false)))))) = some r := h
  clear h
  replace H := Option.bind_eq_some_iff.mp H
  obtain ⟨⟨t147, t148⟩, A20, H⟩ := H
  replace H : ((noonmarkref04_Clock.f a0).bind fun bt149 => ((civil_Week.f a0).bind fun t151 => ((noonmarkref04_Week.f a0).bind fun t152 => (if t151 = t152 then (if t147 = bt149.1 then (if t148 = bt149.2 then ((noonmarklaw04_alive.f).bind fun t153 => (some t153)) else (some false)) else (some false)) else (some false))))) = some r := H
  have A2 := Aside0.mk A20
  clear A20
  replace H := Option.bind_eq_some_iff.mp H
  obtain ⟨⟨t149, t150⟩, A30, H⟩ := H
  replace H : ((civil_Week.f a0).bind fun t151 => ((noonmarkref04_Week.f a0).bind fun t152 => (if t151 = t152 then (if t147 = t149 then (if t148 = t150 then ((noonmarklaw04_alive.f).bind fun t153 => (some t153)) else (some false)) else (some false)) else (some false)))) = some r := H
  have A3 := Aside0.mk A30
  clear A30
  replace H := Option.bind_eq_some_iff.mp H
  obtain ⟨t151, A40, H⟩ := H
  replace H : ((noonmarkref04_Week.f a0).bind fun t152 => (if t151 = t152 then (if t147 = t149 then (if t148 = t150 then ((noonmarklaw04_alive.f).bind fun t153 => (some t153)) else (some false)) else (some false)) else (some false))) = some r := H
  have A4 := Aside0.mk A40
  clear A40
  replace H := Option.bind_eq_some_iff.mp H
  obtain ⟨t152, A50, H⟩ := H
  replace H : (if t151 = t152 then (if t147 = t149 then (if t148 = t150 then ((noonmarklaw04_alive.f).bind fun t153 => (some t153)) else (some false)) else (some false)) else (some false)) = some r := H
  have A5 := Aside0.mk A50
  clear A50
  by_cases c6 : t151 = t152
  · rw [if_pos c6] at H
    have c6b0 : (t151 == t152) = true := beq_iff_eq.mpr c6
    have c6b1 : (t151 != t152) = false := bne_eq_false_iff_eq.mpr c6
    clear c6
    by_cases c7 : t147 = t149
    · rw [if_pos c7] at H
      have c7b0 : (t147 == t149) = true := beq_iff_eq.mpr c7
      have c7b1 : (t147 != t149) = false := bne_eq_false_iff_eq.mpr c7
      clear c7
      by_cases c8 : t148 = t150
      · rw [if_pos c8] at H
        have c8b0 : (t148 == t150) = true := beq_iff_eq.mpr c8
        have c8b1 : (t148 != t150) = false := bne_eq_false_iff_eq.mpr c8
        clear c8
        replace H := Option.bind_eq_some_iff.mp H
        obtain ⟨t153, A90, H⟩ := H
        replace H : (some t153) = some r := H
        have A9 := Aside0.mk A90
        clear A90
        obtain rfl := Option.some.inj H
        go_enter Try.func7, Try.ntmps7
        go_wp2_with (first | ((with_reducible refine gate_callee (f := 20) rfl ?_); refine goesL_ (some 9) rfl rfl Try.func20 (by kernel_rfl) rfl #[.int .i64 a0] rfl (by (try simp only [List.map_toArray, List.map_cons, List.map_nil]); first | done | rfl | (simp only [List.length_drop, List.length_take]; rfl)) ?_; (with_reducible refine (civil_Clock.calls a0 t147 t148 _ A2.out).mono ?_); rintro e w' ⟨rfl, ⟨nd, rfl⟩⟩; refine ⟨_, rfl, ?_⟩) | ((with_reducible refine gate_callee (f := 21) rfl ?_); refine goesL_ (some 14) rfl rfl Try.func21 (by kernel_rfl) rfl #[.int .i64 a0] rfl (by (try simp only [List.map_toArray, List.map_cons, List.map_nil]); first | done | rfl | (simp only [List.length_drop, List.length_take]; rfl)) ?_; (with_reducible refine (noonmarkref04_Clock.calls a0 t149 t150 _ A3.out).mono ?_); rintro e w' ⟨rfl, ⟨nd, rfl⟩⟩; refine ⟨_, rfl, ?_⟩) | ((with_reducible refine gate_callee (f := 19) rfl ?_); refine goesL_ (some 18) rfl rfl Try.func19 (by kernel_rfl) rfl #[.int .i64 a0] rfl (by (try simp only [List.map_toArray, List.map_cons, List.map_nil]); first | done | rfl | (simp only [List.length_drop, List.length_take]; rfl)) ?_; (with_reducible refine (civil_Week.calls a0 t151 _ A4.out).mono ?_); rintro e w' ⟨rfl, ⟨nd, rfl⟩⟩; refine ⟨_, rfl, ?_⟩) | ((with_reducible refine gate_callee (f := 22) rfl ?_); refine goesL_ (some 20) rfl rfl Try.func22 (by kernel_rfl) rfl #[.int .i64 a0] rfl (by (try simp only [List.map_toArray, List.map_cons, List.map_nil]); first | done | rfl | (simp only [List.length_drop, List.length_take]; rfl)) ?_; (with_reducible refine (noonmarkref04_Week.calls a0 t152 _ A5.out).mono ?_); rintro e w' ⟨rfl, ⟨nd, rfl⟩⟩; refine ⟨_, rfl, ?_⟩) | (go_at_call 16; (with_reducible refine (noonmarklaw04_alive.calls  t153 _ A9.out).mono ?_); rintro e w' ⟨rfl, ⟨nd, rfl⟩⟩))
        go_ret
        exact ⟨by first | rfl | (simp; done) | (simp [*]; done), by repeat (first | exact Drawn0.refl _ | apply Drawn0.step)⟩
      · rw [if_neg c8] at H
        have c8b0 : (t148 == t150) = false := beq_eq_false_iff_ne.mpr c8
        have c8b1 : (t148 != t150) = true := bne_iff_ne.mpr c8
        obtain rfl := Option.some.inj H
        go_enter Try.func7, Try.ntmps7
        go_wp2_with (first | ((with_reducible refine gate_callee (f := 20) rfl ?_); refine goesL_ (some 9) rfl rfl Try.func20 (by kernel_rfl) rfl #[.int .i64 a0] rfl (by (try simp only [List.map_toArray, List.map_cons, List.map_nil]); first | done | rfl | (simp only [List.length_drop, List.length_take]; rfl)) ?_; (with_reducible refine (civil_Clock.calls a0 t147 t148 _ A2.out).mono ?_); rintro e w' ⟨rfl, ⟨nd, rfl⟩⟩; refine ⟨_, rfl, ?_⟩) | ((with_reducible refine gate_callee (f := 21) rfl ?_); refine goesL_ (some 14) rfl rfl Try.func21 (by kernel_rfl) rfl #[.int .i64 a0] rfl (by (try simp only [List.map_toArray, List.map_cons, List.map_nil]); first | done | rfl | (simp only [List.length_drop, List.length_take]; rfl)) ?_; (with_reducible refine (noonmarkref04_Clock.calls a0 t149 t150 _ A3.out).mono ?_); rintro e w' ⟨rfl, ⟨nd, rfl⟩⟩; refine ⟨_, rfl, ?_⟩) | ((with_reducible refine gate_callee (f := 19) rfl ?_); refine goesL_ (some 18) rfl rfl Try.func19 (by kernel_rfl) rfl #[.int .i64 a0] rfl (by (try simp only [List.map_toArray, List.map_cons, List.map_nil]); first | done | rfl | (simp only [List.length_drop, List.length_take]; rfl)) ?_; (with_reducible refine (civil_Week.calls a0 t151 _ A4.out).mono ?_); rintro e w' ⟨rfl, ⟨nd, rfl⟩⟩; refine ⟨_, rfl, ?_⟩) | ((with_reducible refine gate_callee (f := 22) rfl ?_); refine goesL_ (some 20) rfl rfl Try.func22 (by kernel_rfl) rfl #[.int .i64 a0] rfl (by (try simp only [List.map_toArray, List.map_cons, List.map_nil]); first | done | rfl | (simp only [List.length_drop, List.length_take]; rfl)) ?_; (with_reducible refine (noonmarkref04_Week.calls a0 t152 _ A5.out).mono ?_); rintro e w' ⟨rfl, ⟨nd, rfl⟩⟩; refine ⟨_, rfl, ?_⟩))
        go_ret
        exact ⟨by first | rfl | (simp; done) | (simp [*]; done), by repeat (first | exact Drawn0.refl _ | apply Drawn0.step)⟩
    · rw [if_neg c7] at H
      have c7b0 : (t147 == t149) = false := beq_eq_false_iff_ne.mpr c7
      have c7b1 : (t147 != t149) = true := bne_iff_ne.mpr c7
      obtain rfl := Option.some.inj H
      go_enter Try.func7, Try.ntmps7
      go_wp2_with (first | ((with_reducible refine gate_callee (f := 20) rfl ?_); refine goesL_ (some 9) rfl rfl Try.func20 (by kernel_rfl) rfl #[.int .i64 a0] rfl (by (try simp only [List.map_toArray, List.map_cons, List.map_nil]); first | done | rfl | (simp only [List.length_drop, List.length_take]; rfl)) ?_; (with_reducible refine (civil_Clock.calls a0 t147 t148 _ A2.out).mono ?_); rintro e w' ⟨rfl, ⟨nd, rfl⟩⟩; refine ⟨_, rfl, ?_⟩) | ((with_reducible refine gate_callee (f := 21) rfl ?_); refine goesL_ (some 14) rfl rfl Try.func21 (by kernel_rfl) rfl #[.int .i64 a0] rfl (by (try simp only [List.map_toArray, List.map_cons, List.map_nil]); first | done | rfl | (simp only [List.length_drop, List.length_take]; rfl)) ?_; (with_reducible refine (noonmarkref04_Clock.calls a0 t149 t150 _ A3.out).mono ?_); rintro e w' ⟨rfl, ⟨nd, rfl⟩⟩; refine ⟨_, rfl, ?_⟩) | ((with_reducible refine gate_callee (f := 19) rfl ?_); refine goesL_ (some 18) rfl rfl Try.func19 (by kernel_rfl) rfl #[.int .i64 a0] rfl (by (try simp only [List.map_toArray, List.map_cons, List.map_nil]); first | done | rfl | (simp only [List.length_drop, List.length_take]; rfl)) ?_; (with_reducible refine (civil_Week.calls a0 t151 _ A4.out).mono ?_); rintro e w' ⟨rfl, ⟨nd, rfl⟩⟩; refine ⟨_, rfl, ?_⟩) | ((with_reducible refine gate_callee (f := 22) rfl ?_); refine goesL_ (some 20) rfl rfl Try.func22 (by kernel_rfl) rfl #[.int .i64 a0] rfl (by (try simp only [List.map_toArray, List.map_cons, List.map_nil]); first | done | rfl | (simp only [List.length_drop, List.length_take]; rfl)) ?_; (with_reducible refine (noonmarkref04_Week.calls a0 t152 _ A5.out).mono ?_); rintro e w' ⟨rfl, ⟨nd, rfl⟩⟩; refine ⟨_, rfl, ?_⟩))
      go_ret
      exact ⟨by first | rfl | (simp; done) | (simp [*]; done), by repeat (first | exact Drawn0.refl _ | apply Drawn0.step)⟩
  · rw [if_neg c6] at H
    have c6b0 : (t151 == t152) = false := beq_eq_false_iff_ne.mpr c6
    have c6b1 : (t151 != t152) = true := bne_iff_ne.mpr c6
    obtain rfl := Option.some.inj H
    go_enter Try.func7, Try.ntmps7
    go_wp2_with (first | ((with_reducible refine gate_callee (f := 20) rfl ?_); refine goesL_ (some 9) rfl rfl Try.func20 (by kernel_rfl) rfl #[.int .i64 a0] rfl (by (try simp only [List.map_toArray, List.map_cons, List.map_nil]); first | done | rfl | (simp only [List.length_drop, List.length_take]; rfl)) ?_; (with_reducible refine (civil_Clock.calls a0 t147 t148 _ A2.out).mono ?_); rintro e w' ⟨rfl, ⟨nd, rfl⟩⟩; refine ⟨_, rfl, ?_⟩) | ((with_reducible refine gate_callee (f := 21) rfl ?_); refine goesL_ (some 14) rfl rfl Try.func21 (by kernel_rfl) rfl #[.int .i64 a0] rfl (by (try simp only [List.map_toArray, List.map_cons, List.map_nil]); first | done | rfl | (simp only [List.length_drop, List.length_take]; rfl)) ?_; (with_reducible refine (noonmarkref04_Clock.calls a0 t149 t150 _ A3.out).mono ?_); rintro e w' ⟨rfl, ⟨nd, rfl⟩⟩; refine ⟨_, rfl, ?_⟩) | ((with_reducible refine gate_callee (f := 19) rfl ?_); refine goesL_ (some 18) rfl rfl Try.func19 (by kernel_rfl) rfl #[.int .i64 a0] rfl (by (try simp only [List.map_toArray, List.map_cons, List.map_nil]); first | done | rfl | (simp only [List.length_drop, List.length_take]; rfl)) ?_; (with_reducible refine (civil_Week.calls a0 t151 _ A4.out).mono ?_); rintro e w' ⟨rfl, ⟨nd, rfl⟩⟩; refine ⟨_, rfl, ?_⟩) | ((with_reducible refine gate_callee (f := 22) rfl ?_); refine goesL_ (some 20) rfl rfl Try.func22 (by kernel_rfl) rfl #[.int .i64 a0] rfl (by (try simp only [List.map_toArray, List.map_cons, List.map_nil]); first | done | rfl | (simp only [List.length_drop, List.length_take]; rfl)) ?_; (with_reducible refine (noonmarkref04_Week.calls a0 t152 _ A5.out).mono ?_); rintro e w' ⟨rfl, ⟨nd, rfl⟩⟩; refine ⟨_, rfl, ?_⟩))
    go_ret
    exact ⟨by first | rfl | (simp; done) | (simp [*]; done), by repeat (first | exact Drawn0.refl _ | apply Drawn0.step)⟩

/-- THE ONE PURE STATEMENT of noonmarklaw04_CivilClocks: yours. -/
def noonmarklaw04_CivilClocks.Pure : Prop := ∀ (a0 : Int), (Lit.int .i64 a0).wf = true → noonmarklaw04_CivilClocks.f a0 = some true
theorem noonmarklaw04_CivilClocks.walk (P : noonmarklaw04_CivilClocks.Pure) (a0 : Int) (w : World) (w0 : (Lit.int .i64 a0).wf = true) :
    Calls Try.prog 7 #[.int .i64 a0] w fun e w' => e = .returned (.bool true) ∧ Below w.heap.size w w' := by
  have h := P a0 w0
  refine (noonmarklaw04_CivilClocks.calls a0 true w h).mono ?_
  rintro e w' ⟨rfl, hd⟩
  exact ⟨rfl, hd.below⟩

/-! ### civil_Date: function 23 -/
def civil_Date.j0 : Nat → Int → Bool → Option (Int × Int × Int × Int)
  | 0, _, _ => none
  | k + 1, x0, x19 => if x19 = true then (some (0, 0, 0, 2)) else (if (wrap64 ((wrap64 (Int.tdiv (wrap64 ((wrap64 (5 * (wrap64 ((wrap64 ((wrap64 (x0 + 5102378)) - (wrap64 ((wrap64 (Int.tdiv (wrap64 (x0 + 5102378)) 146097)) * 146097)))) - (wrap64 ((wrap64 ((wrap64 (365 * (wrap64 (Int.tdiv (wrap64 ((wrap64 ((wrap64 ((wrap64 ((wrap64 (x0 + 5102378)) - (wrap64 ((wrap64 (Int.tdiv (wrap64 (x0 + 5102378)) 146097)) * 146097)))) - (wrap64 (Int.tdiv (wrap64 ((wrap64 (x0 + 5102378)) - (wrap64 ((wrap64 (Int.tdiv (wrap64 (x0 + 5102378)) 146097)) * 146097)))) 1460)))) + (wrap64 (Int.tdiv (wrap64 ((wrap64 (x0 + 5102378)) - (wrap64 ((wrap64 (Int.tdiv (wrap64 (x0 + 5102378)) 146097)) * 146097)))) 36524)))) - (wrap64 (Int.tdiv (wrap64 ((wrap64 (x0 + 5102378)) - (wrap64 ((wrap64 (Int.tdiv (wrap64 (x0 + 5102378)) 146097)) * 146097)))) 146096)))) 365)))) + (wrap64 (Int.tdiv (wrap64 (Int.tdiv (wrap64 ((wrap64 ((wrap64 ((wrap64 ((wrap64 (x0 + 5102378)) - (wrap64 ((wrap64 (Int.tdiv (wrap64 (x0 + 5102378)) 146097)) * 146097)))) - (wrap64 (Int.tdiv (wrap64 ((wrap64 (x0 + 5102378)) - (wrap64 ((wrap64 (Int.tdiv (wrap64 (x0 + 5102378)) 146097)) * 146097)))) 1460)))) + (wrap64 (Int.tdiv (wrap64 ((wrap64 (x0 + 5102378)) - (wrap64 ((wrap64 (Int.tdiv (wrap64 (x0 + 5102378)) 146097)) * 146097)))) 36524)))) - (wrap64 (Int.tdiv (wrap64 ((wrap64 (x0 + 5102378)) - (wrap64 ((wrap64 (Int.tdiv (wrap64 (x0 + 5102378)) 146097)) * 146097)))) 146096)))) 365)) 4)))) - (wrap64 (Int.tdiv (wrap64 (Int.tdiv (wrap64 ((wrap64 ((wrap64 ((wrap64 ((wrap64 (x0 + 5102378)) - (wrap64 ((wrap64 (Int.tdiv (wrap64 (x0 + 5102378)) 146097)) * 146097)))) - (wrap64 (Int.tdiv (wrap64 ((wrap64 (x0 + 5102378)) - (wrap64 ((wrap64 (Int.tdiv (wrap64 (x0 + 5102378)) 146097)) * 146097)))) 1460)))) + (wrap64 (Int.tdiv (wrap64 ((wrap64 (x0 + 5102378)) - (wrap64 ((wrap64 (Int.tdiv (wrap64 (x0 + 5102378)) 146097)) * 146097)))) 36524)))) - (wrap64 (Int.tdiv (wrap64 ((wrap64 (x0 + 5102378)) - (wrap64 ((wrap64 (Int.tdiv (wrap64 (x0 + 5102378)) 146097)) * 146097)))) 146096)))) 365)) 100)))))))) + 2)) 153)) + 3)) > 12 then (some (wrap64 ((wrap64 ((wrap64 ((wrap64 (Int.tdiv (wrap64 ((wrap64 ((wrap64 ((wrap64 ((wrap64 (x0 + 5102378)) - (wrap64 ((wrap64 (Int.tdiv (wrap64 (x0 + 5102378)) 146097)) * 146097)))) - (wrap64 (Int.tdiv (wrap64 ((wrap64 (x0 + 5102378)) - (wrap64 ((wrap64 (Int.tdiv (wrap64 (x0 + 5102378)) 146097)) * 146097)))) 1460)))) + (wrap64 (Int.tdiv (wrap64 ((wrap64 (x0 + 5102378)) - (wrap64 ((wrap64 (Int.tdiv (wrap64 (x0 + 5102378)) 146097)) * 146097)))) 36524)))) - (wrap64 (Int.tdiv (wrap64 ((wrap64 (x0 + 5102378)) - (wrap64 ((wrap64 (Int.tdiv (wrap64 (x0 + 5102378)) 146097)) * 146097)))) 146096)))) 365)) + (wrap64 ((wrap64 (Int.tdiv (wrap64 (x0 + 5102378)) 146097)) * 400)))) - 12000)) + 1), wrap64 ((wrap64 ((wrap64 (Int.tdiv (wrap64 ((wrap64 (5 * (wrap64 ((wrap64 ((wrap64 (x0 + 5102378)) - (wrap64 ((wrap64 (Int.tdiv (wrap64 (x0 + 5102378)) 146097)) * 146097)))) - (wrap64 ((wrap64 ((wrap64 (365 * (wrap64 (Int.tdiv (wrap64 ((wrap64 ((wrap64 ((wrap64 ((wrap64 (x0 + 5102378)) - (wrap64 ((wrap64 (Int.tdiv (wrap64 (x0 + 5102378)) 146097)) * 146097)))) - (wrap64 (Int.tdiv (wrap64 ((wrap64 (x0 + 5102378)) - (wrap64 ((wrap64 (Int.tdiv (wrap64 (x0 + 5102378)) 146097)) * 146097)))) 1460)))) + (wrap64 (Int.tdiv (wrap64 ((wrap64 (x0 + 5102378)) - (wrap64 ((wrap64 (Int.tdiv (wrap64 (x0 + 5102378)) 146097)) * 146097)))) 36524)))) - (wrap64 (Int.tdiv (wrap64 ((wrap64 (x0 + 5102378)) - (wrap64 ((wrap64 (Int.tdiv (wrap64 (x0 + 5102378)) 146097)) * 146097)))) 146096)))) 365)))) + (wrap64 (Int.tdiv (wrap64 (Int.tdiv (wrap64 ((wrap64 ((wrap64 ((wrap64 ((wrap64 (x0 + 5102378)) - (wrap64 ((wrap64 (Int.tdiv (wrap64 (x0 + 5102378)) 146097)) * 146097)))) - (wrap64 (Int.tdiv (wrap64 ((wrap64 (x0 + 5102378)) - (wrap64 ((wrap64 (Int.tdiv (wrap64 (x0 + 5102378)) 146097)) * 146097)))) 1460)))) + (wrap64 (Int.tdiv (wrap64 ((wrap64 (x0 + 5102378)) - (wrap64 ((wrap64 (Int.tdiv (wrap64 (x0 + 5102378)) 146097)) * 146097)))) 36524)))) - (wrap64 (Int.tdiv (wrap64 ((wrap64 (x0 + 5102378)) - (wrap64 ((wrap64 (Int.tdiv (wrap64 (x0 + 5102378)) 146097)) * 146097)))) 146096)))) 365)) 4)))) - (wrap64 (Int.tdiv (wrap64 (Int.tdiv (wrap64 ((wrap64 ((wrap64 ((wrap64 ((wrap64 (x0 + 5102378)) - (wrap64 ((wrap64 (Int.tdiv (wrap64 (x0 + 5102378)) 146097)) * 146097)))) - (wrap64 (Int.tdiv (wrap64 ((wrap64 (x0 + 5102378)) - (wrap64 ((wrap64 (Int.tdiv (wrap64 (x0 + 5102378)) 146097)) * 146097)))) 1460)))) + (wrap64 (Int.tdiv (wrap64 ((wrap64 (x0 + 5102378)) - (wrap64 ((wrap64 (Int.tdiv (wrap64 (x0 + 5102378)) 146097)) * 146097)))) 36524)))) - (wrap64 (Int.tdiv (wrap64 ((wrap64 (x0 + 5102378)) - (wrap64 ((wrap64 (Int.tdiv (wrap64 (x0 + 5102378)) 146097)) * 146097)))) 146096)))) 365)) 100)))))))) + 2)) 153)) + 3)) - 12), wrap64 ((wrap64 ((wrap64 ((wrap64 ((wrap64 (x0 + 5102378)) - (wrap64 ((wrap64 (Int.tdiv (wrap64 (x0 + 5102378)) 146097)) * 146097)))) - (wrap64 ((wrap64 ((wrap64 (365 * (wrap64 (Int.tdiv (wrap64 ((wrap64 ((wrap64 ((wrap64 ((wrap64 (x0 + 5102378)) - (wrap64 ((wrap64 (Int.tdiv (wrap64 (x0 + 5102378)) 146097)) * 146097)))) - (wrap64 (Int.tdiv (wrap64 ((wrap64 (x0 + 5102378)) - (wrap64 ((wrap64 (Int.tdiv (wrap64 (x0 + 5102378)) 146097)) * 146097)))) 1460)))) + (wrap64 (Int.tdiv (wrap64 ((wrap64 (x0 + 5102378)) - (wrap64 ((wrap64 (Int.tdiv (wrap64 (x0 + 5102378)) 146097)) * 146097)))) 36524)))) - (wrap64 (Int.tdiv (wrap64 ((wrap64 (x0 + 5102378)) - (wrap64 ((wrap64 (Int.tdiv (wrap64 (x0 + 5102378)) 146097)) * 146097)))) 146096)))) 365)))) + (wrap64 (Int.tdiv (wrap64 (Int.tdiv (wrap64 ((wrap64 ((wrap64 ((wrap64 ((wrap64 (x0 + 5102378)) - (wrap64 ((wrap64 (Int.tdiv (wrap64 (x0 + 5102378)) 146097)) * 146097)))) - (wrap64 (Int.tdiv (wrap64 ((wrap64 (x0 + 5102378)) - (wrap64 ((wrap64 (Int.tdiv (wrap64 (x0 + 5102378)) 146097)) * 146097)))) 1460)))) + (wrap64 (Int.tdiv (wrap64 ((wrap64 (x0 + 5102378)) - (wrap64 ((wrap64 (Int.tdiv (wrap64 (x0 + 5102378)) 146097)) * 146097)))) 36524)))) - (wrap64 (Int.tdiv (wrap64 ((wrap64 (x0 + 5102378)) - (wrap64 ((wrap64 (Int.tdiv (wrap64 (x0 + 5102378)) 146097)) * 146097)))) 146096)))) 365)) 4)))) - (wrap64 (Int.tdiv (wrap64 (Int.tdiv (wrap64 ((wrap64 ((wrap64 ((wrap64 ((wrap64 (x0 + 5102378)) - (wrap64 ((wrap64 (Int.tdiv (wrap64 (x0 + 5102378)) 146097)) * 146097)))) - (wrap64 (Int.tdiv (wrap64 ((wrap64 (x0 + 5102378)) - (wrap64 ((wrap64 (Int.tdiv (wrap64 (x0 + 5102378)) 146097)) * 146097)))) 1460)))) + (wrap64 (Int.tdiv (wrap64 ((wrap64 (x0 + 5102378)) - (wrap64 ((wrap64 (Int.tdiv (wrap64 (x0 + 5102378)) 146097)) * 146097)))) 36524)))) - (wrap64 (Int.tdiv (wrap64 ((wrap64 (x0 + 5102378)) - (wrap64 ((wrap64 (Int.tdiv (wrap64 (x0 + 5102378)) 146097)) * 146097)))) 146096)))) 365)) 100)))))) - (wrap64 (Int.tdiv (wrap64 ((wrap64 (153 * (wrap64 (Int.tdiv (wrap64 ((wrap64 (5 * (wrap64 ((wrap64 ((wrap64 (x0 + 5102378)) - (wrap64 ((wrap64 (Int.tdiv (wrap64 (x0 + 5102378)) 146097)) * 146097)))) - (wrap64 ((wrap64 ((wrap64 (365 * (wrap64 (Int.tdiv (wrap64 ((wrap64 ((wrap64 ((wrap64 ((wrap64 (x0 + 5102378)) - (wrap64 ((wrap64 (Int.tdiv (wrap64 (x0 + 5102378)) 146097)) * 146097)))) - (wrap64 (Int.tdiv (wrap64 ((wrap64 (x0 + 5102378)) - (wrap64 ((wrap64 (Int.tdiv (wrap64 (x0 + 5102378)) 146097)) * 146097)))) 1460)))) + (wrap64 (Int.tdiv (wrap64 ((wrap64 (x0 + 5102378)) - (wrap64 ((wrap64 (Int.tdiv (wrap64 (x0 + 5102378)) 146097)) * 146097)))) 36524)))) - (wrap64 (Int.tdiv (wrap64 ((wrap64 (x0 + 5102378)) - (wrap64 ((wrap64 (Int.tdiv (wrap64 (x0 + 5102378)) 146097)) * 146097)))) 146096)))) 365)))) + (wrap64 (Int.tdiv (wrap64 (Int.tdiv (wrap64 ((wrap64 ((wrap64 ((wrap64 ((wrap64 (x0 + 5102378)) - (wrap64 ((wrap64 (Int.tdiv (wrap64 (x0 + 5102378)) 146097)) * 146097)))) - (wrap64 (Int.tdiv (wrap64 ((wrap64 (x0 + 5102378)) - (wrap64 ((wrap64 (Int.tdiv (wrap64 (x0 + 5102378)) 146097)) * 146097)))) 1460)))) + (wrap64 (Int.tdiv (wrap64 ((wrap64 (x0 + 5102378)) - (wrap64 ((wrap64 (Int.tdiv (wrap64 (x0 + 5102378)) 146097)) * 146097)))) 36524)))) - (wrap64 (Int.tdiv (wrap64 ((wrap64 (x0 + 5102378)) - (wrap64 ((wrap64 (Int.tdiv (wrap64 (x0 + 5102378)) 146097)) * 146097)))) 146096)))) 365)) 4)))) - (wrap64 (Int.tdiv (wrap64 (Int.tdiv (wrap64 ((wrap64 ((wrap64 ((wrap64 ((wrap64 (x0 + 5102378)) - (wrap64 ((wrap64 (Int.tdiv (wrap64 (x0 + 5102378)) 146097)) * 146097)))) - (wrap64 (Int.tdiv (wrap64 ((wrap64 (x0 + 5102378)) - (wrap64 ((wrap64 (Int.tdiv (wrap64 (x0 + 5102378)) 146097)) * 146097)))) 1460)))) + (wrap64 (Int.tdiv (wrap64 ((wrap64 (x0 + 5102378)) - (wrap64 ((wrap64 (Int.tdiv (wrap64 (x0 + 5102378)) 146097)) * 146097)))) 36524)))) - (wrap64 (Int.tdiv (wrap64 ((wrap64 (x0 + 5102378)) - (wrap64 ((wrap64 (Int.tdiv (wrap64 (x0 + 5102378)) 146097)) * 146097)))) 146096)))) 365)) 100)))))))) + 2)) 153)))) + 2)) 5)))) + 1), 0)) else (some (wrap64 ((wrap64 ((wrap64 (Int.tdiv (wrap64 ((wrap64 ((wrap64 ((wrap64 ((wrap64 (x0 + 5102378)) - (wrap64 ((wrap64 (Int.tdiv (wrap64 (x0 + 5102378)) 146097)) * 146097)))) - (wrap64 (Int.tdiv (wrap64 ((wrap64 (x0 + 5102378)) - (wrap64 ((wrap64 (Int.tdiv (wrap64 (x0 + 5102378)) 146097)) * 146097)))) 1460)))) + (wrap64 (Int.tdiv (wrap64 ((wrap64 (x0 + 5102378)) - (wrap64 ((wrap64 (Int.tdiv (wrap64 (x0 + 5102378)) 146097)) * 146097)))) 36524)))) - (wrap64 (Int.tdiv (wrap64 ((wrap64 (x0 + 5102378)) - (wrap64 ((wrap64 (Int.tdiv (wrap64 (x0 + 5102378)) 146097)) * 146097)))) 146096)))) 365)) + (wrap64 ((wrap64 (Int.tdiv (wrap64 (x0 + 5102378)) 146097)) * 400)))) - 12000), wrap64 ((wrap64 (Int.tdiv (wrap64 ((wrap64 (5 * (wrap64 ((wrap64 ((wrap64 (x0 + 5102378)) - (wrap64 ((wrap64 (Int.tdiv (wrap64 (x0 + 5102378)) 146097)) * 146097)))) - (wrap64 ((wrap64 ((wrap64 (365 * (wrap64 (Int.tdiv (wrap64 ((wrap64 ((wrap64 ((wrap64 ((wrap64 (x0 + 5102378)) - (wrap64 ((wrap64 (Int.tdiv (wrap64 (x0 + 5102378)) 146097)) * 146097)))) - (wrap64 (Int.tdiv (wrap64 ((wrap64 (x0 + 5102378)) - (wrap64 ((wrap64 (Int.tdiv (wrap64 (x0 + 5102378)) 146097)) * 146097)))) 1460)))) + (wrap64 (Int.tdiv (wrap64 ((wrap64 (x0 + 5102378)) - (wrap64 ((wrap64 (Int.tdiv (wrap64 (x0 + 5102378)) 146097)) * 146097)))) 36524)))) - (wrap64 (Int.tdiv (wrap64 ((wrap64 (x0 + 5102378)) - (wrap64 ((wrap64 (Int.tdiv (wrap64 (x0 + 5102378)) 146097)) * 146097)))) 146096)))) 365)))) + (wrap64 (Int.tdiv (wrap64 (Int.tdiv (wrap64 ((wrap64 ((wrap64 ((wrap64 ((wrap64 (x0 + 5102378)) - (wrap64 ((wrap64 (Int.tdiv (wrap64 (x0 + 5102378)) 146097)) * 146097)))) - (wrap64 (Int.tdiv (wrap64 ((wrap64 (x0 + 5102378)) - (wrap64 ((wrap64 (Int.tdiv (wrap64 (x0 + 5102378)) 146097)) * 146097)))) 1460)))) + (wrap64 (Int.tdiv (wrap64 ((wrap64 (x0 + 5102378)) - (wrap64 ((wrap64 (Int.tdiv (wrap64 (x0 + 5102378)) 146097)) * 146097)))) 36524)))) - (wrap64 (Int.tdiv (wrap64 ((wrap64 (x0 + 5102378)) - (wrap64 ((wrap64 (Int.tdiv (wrap64 (x0 + 5102378)) 146097)) * 146097)))) 146096)))) 365)) 4)))) - (wrap64 (Int.tdiv (wrap64 (Int.tdiv (wrap64 ((wrap64 ((wrap64 ((wrap64 ((wrap64 (x0 + 5102378)) - (wrap64 ((wrap64 (Int.tdiv (wrap64 (x0 + 5102378)) 146097)) * 146097)))) - (wrap64 (Int.tdiv (wrap64 ((wrap64 (x0 + 5102378)) - (wrap64 ((wrap64 (Int.tdiv (wrap64 (x0 + 5102378)) 146097)) * 146097)))) 1460)))) + (wrap64 (Int.tdiv (wrap64 ((wrap64 (x0 + 5102378)) - (wrap64 ((wrap64 (Int.tdiv (wrap64 (x0 + 5102378)) 146097)) * 146097)))) 36524)))) - (wrap64 (Int.tdiv (wrap64 ((wrap64 (x0 + 5102378)) - (wrap64 ((wrap64 (Int.tdiv (wrap64 (x0 + 5102378)) 146097)) * 146097)))) 146096)))) 365)) 100)))))))) + 2)) 153)) + 3), wrap64 ((wrap64 ((wrap64 ((wrap64 ((wrap64 (x0 + 5102378)) - (wrap64 ((wrap64 (Int.tdiv (wrap64 (x0 + 5102378)) 146097)) * 146097)))) - (wrap64 ((wrap64 ((wrap64 (365 * (wrap64 (Int.tdiv (wrap64 ((wrap64 ((wrap64 ((wrap64 ((wrap64 (x0 + 5102378)) - (wrap64 ((wrap64 (Int.tdiv (wrap64 (x0 + 5102378)) 146097)) * 146097)))) - (wrap64 (Int.tdiv (wrap64 ((wrap64 (x0 + 5102378)) - (wrap64 ((wrap64 (Int.tdiv (wrap64 (x0 + 5102378)) 146097)) * 146097)))) 1460)))) + (wrap64 (Int.tdiv (wrap64 ((wrap64 (x0 + 5102378)) - (wrap64 ((wrap64 (Int.tdiv (wrap64 (x0 + 5102378)) 146097)) * 146097)))) 36524)))) - (wrap64 (Int.tdiv (wrap64 ((wrap64 (x0 + 5102378)) - (wrap64 ((wrap64 (Int.tdiv (wrap64 (x0 + 5102378)) 146097)) * 146097)))) 146096)))) 365)))) + (wrap64 (Int.tdiv (wrap64 (Int.tdiv (wrap64 ((wrap64 ((wrap64 ((wrap64 ((wrap64 (x0 + 5102378)) - (wrap64 ((wrap64 (Int.tdiv (wrap64 (x0 + 5102378)) 146097)) * 146097)))) - (wrap64 (Int.tdiv (wrap64 ((wrap64 (x0 + 5102378)) - (wrap64 ((wrap64 (Int.tdiv (wrap64 (x0 + 5102378)) 146097)) * 146097)))) 1460)))) + (wrap64 (Int.tdiv (wrap64 ((wrap64 (x0 + 5102378)) - (wrap64 ((wrap64 (Int.tdiv (wrap64 (x0 + 5102378)) 146097)) * 146097)))) 36524)))) - (wrap64 (Int.tdiv (wrap64 ((wrap64 (x0 + 5102378)) - (wrap64 ((wrap64 (Int.tdiv (wrap64 (x0 + 5102378)) 146097)) * 146097)))) 146096)))) 365)) 4)))) - (wrap64 (Int.tdiv (wrap64 (Int.tdiv (wrap64 ((wrap64 ((wrap64 ((wrap64 ((wrap64 (x0 + 5102378)) - (wrap64 ((wrap64 (Int.tdiv (wrap64 (x0 + 5102378)) 146097)) * 146097)))) - (wrap64 (Int.tdiv (wrap64 ((wrap64 (x0 + 5102378)) - (wrap64 ((wrap64 (Int.tdiv (wrap64 (x0 + 5102378)) 146097)) * 146097)))) 1460)))) + (wrap64 (Int.tdiv (wrap64 ((wrap64 (x0 + 5102378)) - (wrap64 ((wrap64 (Int.tdiv (wrap64 (x0 + 5102378)) 146097)) * 146097)))) 36524)))) - (wrap64 (Int.tdiv (wrap64 ((wrap64 (x0 + 5102378)) - (wrap64 ((wrap64 (Int.tdiv (wrap64 (x0 + 5102378)) 146097)) * 146097)))) 146096)))) 365)) 100)))))) - (wrap64 (Int.tdiv (wrap64 ((wrap64 (153 * (wrap64 (Int.tdiv (wrap64 ((wrap64 (5 * (wrap64 ((wrap64 ((wrap64 (x0 + 5102378)) - (wrap64 ((wrap64 (Int.tdiv (wrap64 (x0 + 5102378)) 146097)) * 146097)))) - (wrap64 ((wrap64 ((wrap64 (365 * (wrap64 (Int.tdiv (wrap64 ((wrap64 ((wrap64 ((wrap64 ((wrap64 (x0 + 5102378)) - (wrap64 ((wrap64 (Int.tdiv (wrap64 (x0 + 5102378)) 146097)) * 146097)))) - (wrap64 (Int.tdiv (wrap64 ((wrap64 (x0 + 5102378)) - (wrap64 ((wrap64 (Int.tdiv (wrap64 (x0 + 5102378)) 146097)) * 146097)))) 1460)))) + (wrap64 (Int.tdiv (wrap64 ((wrap64 (x0 + 5102378)) - (wrap64 ((wrap64 (Int.tdiv (wrap64 (x0 + 5102378)) 146097)) * 146097)))) 36524)))) - (wrap64 (Int.tdiv (wrap64 ((wrap64 (x0 + 5102378)) - (wrap64 ((wrap64 (Int.tdiv (wrap64 (x0 + 5102378)) 146097)) * 146097)))) 146096)))) 365)))) + (wrap64 (Int.tdiv (wrap64 (Int.tdiv (wrap64 ((wrap64 ((wrap64 ((wrap64 ((wrap64 (x0 + 5102378)) - (wrap64 ((wrap64 (Int.tdiv (wrap64 (x0 + 5102378)) 146097)) * 146097)))) - (wrap64 (Int.tdiv (wrap64 ((wrap64 (x0 + 5102378)) - (wrap64 ((wrap64 (Int.tdiv (wrap64 (x0 + 5102378)) 146097)) * 146097)))) 1460)))) + (wrap64 (Int.tdiv (wrap64 ((wrap64 (x0 + 5102378)) - (wrap64 ((wrap64 (Int.tdiv (wrap64 (x0 + 5102378)) 146097)) * 146097)))) 36524)))) - (wrap64 (Int.tdiv (wrap64 ((wrap64 (x0 + 5102378)) - (wrap64 ((wrap64 (Int.tdiv (wrap64 (x0 + 5102378)) 146097)) * 146097)))) 146096)))) 365)) 4)))) - (wrap64 (Int.tdiv (wrap64 (Int.tdiv (wrap64 ((wrap64 ((wrap64 ((wrap64 ((wrap64 (x0 + 5102378)) - (wrap64 ((wrap64 (Int.tdiv (wrap64 (x0 + 5102378)) 146097)) * 146097)))) - (wrap64 (Int.tdiv (wrap64 ((wrap64 (x0 + 5102378)) - (wrap64 ((wrap64 (Int.tdiv (wrap64 (x0 + 5102378)) 146097)) * 146097)))) 1460)))) + (wrap64 (Int.tdiv (wrap64 ((wrap64 (x0 + 5102378)) - (wrap64 ((wrap64 (Int.tdiv (wrap64 (x0 + 5102378)) 146097)) * 146097)))) 36524)))) - (wrap64 (Int.tdiv (wrap64 ((wrap64 (x0 + 5102378)) - (wrap64 ((wrap64 (Int.tdiv (wrap64 (x0 + 5102378)) 146097)) * 146097)))) 146096)))) 365)) 100)))))))) + 2)) 153)))) + 2)) 5)))) + 1), 0)))
def civil_Date.f (k : Nat) (a0 : Int) : Option (Int × Int × Int × Int) := (civil_number.f (-9999) 1 1).bind fun t154 => (if a0 < t154 then (civil_Date.j0 k a0 true) else ((civil_number.f 9999 12 31).bind fun t155 => (civil_Date.j0 k a0 (decide (a0 > t155)))))
theorem civil_Date.mono_l : ∀ k, (∀ y0 y1, LeO (civil_Date.j0 k y0 y1) (civil_Date.j0 (k + 1) y0 y1))
  | 0 => fun _ _ r h => by simp [civil_Date.j0] at h
  | k + 1 => by
    have ih0 := civil_Date.mono_l k
    · intro y0 y1
      unfold civil_Date.j0
      repeat' first
      | (with_reducible exact ih0 _ _)
      | (with_reducible exact LeO.refl _)
      | (with_reducible exact LeO.none _)
      | (with_reducible refine LeO.ite ?_ ?_)
      | (with_reducible refine LeO.bind ?_ (fun _ => ?_))
      | exact ih0 _ _
      | exact LeO.none _
      | refine LeO.ite ?_ ?_
      | refine LeO.bind ?_ (fun _ => ?_)
theorem civil_Date.mono : ∀ a0 k, LeO (civil_Date.f k a0) (civil_Date.f (k + 1) a0) := by
  intro a0 k
  have ih0 := civil_Date.mono_l k
  unfold civil_Date.f
  repeat' first
      | (with_reducible exact ih0 _ _)
      | (with_reducible exact LeO.refl _)
      | (with_reducible exact LeO.none _)
      | (with_reducible refine LeO.ite ?_ ?_)
      | (with_reducible refine LeO.bind ?_ (fun _ => ?_))
      | exact ih0 _ _
      | exact LeO.none _
      | refine LeO.ite ?_ ?_
      | refine LeO.bind ?_ (fun _ => ?_)
set_option maxHeartbeats 8000000 in
set_option maxRecDepth 100000 in
theorem civil_Date.calls (k : Nat) (a0 : Int) (r1 : Int) (r2 : Int) (r3 : Int) (r4 : Int) (w : World) (h : civil_Date.f k a0 = some (r1, r2, r3, r4)) :
    Calls Try.prog 23 #[.int .i64 a0] w fun e w' => e = .returned (.tuple #[.int .i64 r1, .int .i64 r2, .int .i64 r3, .int .i64 r4]) ∧ Drawn0 w w' := by
  have H : ((civil_number.f (-9999) 1 1).bind fun t154 => (if a0 < t154 then (civil_Date.j0 k a0 true) else ((civil_number.f 9999 12 31).bind fun t155 => (civil_Date.j0 k a0 (decide (a0 > t155)))))) = some (r1, r2, r3, r4) := h
  clear h
  have HC2 := Aside0.mk H
  clear H
  go_enter Try.func23, Try.ntmps23
  go_upto_region 1 with (fail)
  go_cut [19] (fun v19 wc => ∃ (kq : Nat) (x19_1 : Bool), v19 = .bool x19_1 ∧ Aside0 (civil_Date.j0 kq a0 x19_1 = some (r1, r2, r3, r4)) ∧ Aside0 (kq ≤ k) ∧ Drawn0 w wc)
  case first =>
    have H := HC2.out
    clear HC2
    replace H := Option.bind_eq_some_iff.mp H
    obtain ⟨t154, A30, H⟩ := H
    replace H : (if a0 < t154 then (civil_Date.j0 k a0 true) else ((civil_number.f 9999 12 31).bind fun t155 => (civil_Date.j0 k a0 (decide (a0 > t155))))) = some (r1, r2, r3, r4) := H
    have A3 := Aside0.mk A30
    clear A30
    by_cases c4 : a0 < t154
    · rw [if_pos c4] at H
      have c4b0 : decide (a0 < t154) = true := decide_eq_true c4
      clear c4
      (first | rw [c4b0] | (simp only [i64_w, i32_w]; rw [c4b0]) | skip)
      have H' := Aside0.mk H
      clear H
      go_wp2_with (first | ((with_reducible refine gate_callee (f := 25) rfl ?_); refine goesL_ (some 13) rfl rfl Try.func25 (by kernel_rfl) rfl #[.int .i64 (-9999), .int .i64 1, .int .i64 1] rfl (by (try simp only [List.map_toArray, List.map_cons, List.map_nil]); first | done | rfl | (simp only [List.length_drop, List.length_take]; rfl)) ?_; (with_reducible refine (civil_number.calls (-9999) 1 1 t154 _ A3.out).mono ?_); rintro e w' ⟨rfl, ⟨nd, rfl⟩⟩; refine ⟨_, rfl, ?_⟩))
      go_meet
      case rel => exact ⟨_, (true), (by first | rfl | (simp; done) | (simp [*]; done)), H', ⟨by first | omega | exact Nat.le_refl _⟩, by repeat (first | exact Drawn0.refl _ | apply Drawn0.step)⟩
    · rw [if_neg c4] at H
      have c4b0 : decide (a0 < t154) = false := decide_eq_false c4
      clear c4
      (first | rw [c4b0] | (simp only [i64_w, i32_w]; rw [c4b0]) | skip)
      replace H := Option.bind_eq_some_iff.mp H
      obtain ⟨t155, A50, H⟩ := H
      replace H : (civil_Date.j0 k a0 (decide (a0 > t155))) = some (r1, r2, r3, r4) := H
      have A5 := Aside0.mk A50
      clear A50
      have H' := Aside0.mk H
      clear H
      go_wp2_with (first | ((with_reducible refine gate_callee (f := 25) rfl ?_); refine goesL_ (some 13) rfl rfl Try.func25 (by kernel_rfl) rfl #[.int .i64 (-9999), .int .i64 1, .int .i64 1] rfl (by (try simp only [List.map_toArray, List.map_cons, List.map_nil]); first | done | rfl | (simp only [List.length_drop, List.length_take]; rfl)) ?_; (with_reducible refine (civil_number.calls (-9999) 1 1 t154 _ A3.out).mono ?_); rintro e w' ⟨rfl, ⟨nd, rfl⟩⟩; refine ⟨_, rfl, ?_⟩) | (go_at_call 25; (with_reducible refine (civil_number.calls 9999 12 31 t155 _ A5.out).mono ?_); rintro e w' ⟨rfl, ⟨nd, rfl⟩⟩))
      go_meet
      case rel => exact ⟨_, (decide (a0 > t155)), (by first | rfl | (simp; done) | (simp [*]; done)), H', ⟨by first | omega | exact Nat.le_refl _⟩, by repeat (first | exact Drawn0.refl _ | apply Drawn0.step)⟩
  case rest =>
    clear HC2
    try clear c2
    try clear p2
    try clear c4
    try clear c4b0
    obtain ⟨kq, x19_1, rfl, HA, HJ1, ⟨mc1, rfl⟩⟩ := hcut
    cases kq with
    | zero => exact absurd HA.out (by simp [civil_Date.j0])
    | succ kj1 =>
      have H := HA.out
      clear HA
      simp only [civil_Date.j0] at H
      by_cases c6 : x19_1 = true
      · subst c6
        have H1 : (some (0, 0, 0, 2)) = some (r1, r2, r3, r4) := by rw [if_pos rfl] at H; exact H
        clear H
        have H := H1
        clear H1
        simp only [Option.some.injEq, Prod.mk.injEq] at H
        obtain ⟨rfl, rfl, rfl, rfl⟩ := H
        go_wp2
        refine bodyPost_ret (results_list (rs := [.tmp 2, .tmp 3, .tmp 4, .tmp 5]) rfl (by simp) (.tmp (.tmp (.tmp (.tmp .nil))))) rfl ?_
        exact ⟨by first | rfl | (simp; done) | (simp [*]; done), by repeat (first | exact Drawn0.refl _ | apply Drawn0.step)⟩
      · replace c6 := Bool.eq_false_iff.mpr c6
        subst c6
        have H1 : (if (wrap64 ((wrap64 (Int.tdiv (wrap64 ((wrap64 (5 * (wrap64 ((wrap64 ((wrap64 (a0 + 5102378)) - (wrap64 ((wrap64 (Int.tdiv (wrap64 (a0 + 5102378)) 146097)) * 146097)))) - (wrap64 ((wrap64 ((wrap64 (365 * (wrap64 (Int.tdiv (wrap64 ((wrap64 ((wrap64 ((wrap64 ((wrap64 (a0 + 5102378)) - (wrap64 ((wrap64 (Int.tdiv (wrap64 (a0 + 5102378)) 146097)) * 146097)))) - (wrap64 (Int.tdiv (wrap64 ((wrap64 (a0 + 5102378)) - (wrap64 ((wrap64 (Int.tdiv (wrap64 (a0 + 5102378)) 146097)) * 146097)))) 1460)))) + (wrap64 (Int.tdiv (wrap64 ((wrap64 (a0 + 5102378)) - (wrap64 ((wrap64 (Int.tdiv (wrap64 (a0 + 5102378)) 146097)) * 146097)))) 36524)))) - (wrap64 (Int.tdiv (wrap64 ((wrap64 (a0 + 5102378)) - (wrap64 ((wrap64 (Int.tdiv (wrap64 (a0 + 5102378)) 146097)) * 146097)))) 146096)))) 365)))) + (wrap64 (Int.tdiv (wrap64 (Int.tdiv (wrap64 ((wrap64 ((wrap64 ((wrap64 ((wrap64 (a0 + 5102378)) - (wrap64 ((wrap64 (Int.tdiv (wrap64 (a0 + 5102378)) 146097)) * 146097)))) - (wrap64 (Int.tdiv (wrap64 ((wrap64 (a0 + 5102378)) - (wrap64 ((wrap64 (Int.tdiv (wrap64 (a0 + 5102378)) 146097)) * 146097)))) 1460)))) + (wrap64 (Int.tdiv (wrap64 ((wrap64 (a0 + 5102378)) - (wrap64 ((wrap64 (Int.tdiv (wrap64 (a0 + 5102378)) 146097)) * 146097)))) 36524)))) - (wrap64 (Int.tdiv (wrap64 ((wrap64 (a0 + 5102378)) - (wrap64 ((wrap64 (Int.tdiv (wrap64 (a0 + 5102378)) 146097)) * 146097)))) 146096)))) 365)) 4)))) - (wrap64 (Int.tdiv (wrap64 (Int.tdiv (wrap64 ((wrap64 ((wrap64 ((wrap64 ((wrap64 (a0 + 5102378)) - (wrap64 ((wrap64 (Int.tdiv (wrap64 (a0 + 5102378)) 146097)) * 146097)))) - (wrap64 (Int.tdiv (wrap64 ((wrap64 (a0 + 5102378)) - (wrap64 ((wrap64 (Int.tdiv (wrap64 (a0 + 5102378)) 146097)) * 146097)))) 1460)))) + (wrap64 (Int.tdiv (wrap64 ((wrap64 (a0 + 5102378)) - (wrap64 ((wrap64 (Int.tdiv (wrap64 (a0 + 5102378)) 146097)) * 146097)))) 36524)))) - (wrap64 (Int.tdiv (wrap64 ((wrap64 (a0 + 5102378)) - (wrap64 ((wrap64 (Int.tdiv (wrap64 (a0 + 5102378)) 146097)) * 146097)))) 146096)))) 365)) 100)))))))) + 2)) 153)) + 3)) > 12 then (some (wrap64 ((wrap64 ((wrap64 ((wrap64 (Int.tdiv (wrap64 ((wrap64 ((wrap64 ((wrap64 ((wrap64 (a0 + 5102378)) - (wrap64 ((wrap64 (Int.tdiv (wrap64 (a0 + 5102378)) 146097)) * 146097)))) - (wrap64 (Int.tdiv (wrap64 ((wrap64 (a0 + 5102378)) - (wrap64 ((wrap64 (Int.tdiv (wrap64 (a0 + 5102378)) 146097)) * 146097)))) 1460)))) + (wrap64 (Int.tdiv (wrap64 ((wrap64 (a0 + 5102378)) - (wrap64 ((wrap64 (Int.tdiv (wrap64 (a0 + 5102378)) 146097)) * 146097)))) 36524)))) - (wrap64 (Int.tdiv (wrap64 ((wrap64 (a0 + 5102378)) - (wrap64 ((wrap64 (Int.tdiv (wrap64 (a0 + 5102378)) 146097)) * 146097)))) 146096)))) 365)) + (wrap64 ((wrap64 (Int.tdiv (wrap64 (a0 + 5102378)) 146097)) * 400)))) - 12000)) + 1), wrap64 ((wrap64 ((wrap64 (Int.tdiv (wrap64 ((wrap64 (5 * (wrap64 ((wrap64 ((wrap64 (a0 + 5102378)) - (wrap64 ((wrap64 (Int.tdiv (wrap64 (a0 + 5102378)) 146097)) * 146097)))) - (wrap64 ((wrap64 ((wrap64 (365 * (wrap64 (Int.tdiv (wrap64 ((wrap64 ((wrap64 ((wrap64 ((wrap64 (a0 + 5102378)) - (wrap64 ((wrap64 (Int.tdiv (wrap64 (a0 + 5102378)) 146097)) * 146097)))) - (wrap64 (Int.tdiv (wrap64 ((wrap64 (a0 + 5102378)) - (wrap64 ((wrap64 (Int.tdiv (wrap64 (a0 + 5102378)) 146097)) * 146097)))) 1460)))) + (wrap64 (Int.tdiv (wrap64 ((wrap64 (a0 + 5102378)) - (wrap64 ((wrap64 (Int.tdiv (wrap64 (a0 + 5102378)) 146097)) * 146097)))) 36524)))) - (wrap64 (Int.tdiv (wrap64 ((wrap64 (a0 + 5102378)) - (wrap64 ((wrap64 (Int.tdiv (wrap64 (a0 + 5102378)) 146097)) * 146097)))) 146096)))) 365)))) + (wrap64 (Int.tdiv (wrap64 (Int.tdiv (wrap64 ((wrap64 ((wrap64 ((wrap64 ((wrap64 (a0 + 5102378)) - (wrap64 ((wrap64 (Int.tdiv (wrap64 (a0 + 5102378)) 146097)) * 146097)))) - (wrap64 (Int.tdiv (wrap64 ((wrap64 (a0 + 5102378)) - (wrap64 ((wrap64 (Int.tdiv (wrap64 (a0 + 5102378)) 146097)) * 146097)))) 1460)))) + (wrap64 (Int.tdiv (wrap64 ((wrap64 (a0 + 5102378)) - (wrap64 ((wrap64 (Int.tdiv (wrap64 (a0 + 5102378)) 146097)) * 146097)))) 36524)))) - (wrap64 (Int.tdiv (wrap64 ((wrap64 (a0 + 5102378)) - (wrap64 ((wrap64 (Int.tdiv (wrap64 (a0 + 5102378)) 146097)) * 146097)))) 146096)))) 365)) 4)))) - (wrap64 (Int.tdiv (wrap64 (Int.tdiv (wrap64 ((wrap64 ((wrap64 ((wrap64 ((wrap64 (a0 + 5102378)) - (wrap64 ((wrap64 (Int.tdiv (wrap64 (a0 + 5102378)) 146097)) * 146097)))) - (wrap64 (Int.tdiv (wrap64 ((wrap64 (a0 + 5102378)) - (wrap64 ((wrap64 (Int.tdiv (wrap64 (a0 + 5102378)) 146097)) * 146097)))) 1460)))) + (wrap64 (Int.tdiv (wrap64 ((wrap64 (a0 + 5102378)) - (wrap64 ((wrap64 (Int.tdiv (wrap64 (a0 + 5102378)) 146097)) * 146097)))) 36524)))) - (wrap64 (Int.tdiv (wrap64 ((wrap64 (a0 + 5102378)) - (wrap64 ((wrap64 (Int.tdiv (wrap64 (a0 + 5102378)) 146097)) * 146097)))) 146096)))) 365)) 100)))))))) + 2)) 153)) + 3)) - 12), wrap64 ((wrap64 ((wrap64 ((wrap64 ((wrap64 (a0 + 5102378)) - (wrap64 ((wrap64 (Int.tdiv (wrap64 (a0 + 5102378)) 146097)) * 146097)))) - (wrap64 ((wrap64 ((wrap64 (365 * (wrap64 (Int.tdiv (wrap64 ((wrap64 ((wrap64 ((wrap64 ((wrap64 (a0 + 5102378)) - (wrap64 ((wrap64 (Int.tdiv (wrap64 (a0 + 5102378)) 146097)) * 146097)))) - (wrap64 (Int.tdiv (wrap64 ((wrap64 (a0 + 5102378)) - (wrap64 ((wrap64 (Int.tdiv (wrap64 (a0 + 5102378)) 146097)) * 146097)))) 1460)))) + (wrap64 (Int.tdiv (wrap64 ((wrap64 (a0 + 5102378)) - (wrap64 ((wrap64 (Int.tdiv (wrap64 (a0 + 5102378)) 146097)) * 146097)))) 36524)))) - (wrap64 (Int.tdiv (wrap64 ((wrap64 (a0 + 5102378)) - (wrap64 ((wrap64 (Int.tdiv (wrap64 (a0 + 5102378)) 146097)) * 146097)))) 146096)))) 365)))) + (wrap64 (Int.tdiv (wrap64 (Int.tdiv (wrap64 ((wrap64 ((wrap64 ((wrap64 ((wrap64 (a0 + 5102378)) - (wrap64 ((wrap64 (Int.tdiv (wrap64 (a0 + 5102378)) 146097)) * 146097)))) - (wrap64 (Int.tdiv (wrap64 ((wrap64 (a0 + 5102378)) - (wrap64 ((wrap64 (Int.tdiv (wrap64 (a0 + 5102378)) 146097)) * 146097)))) 1460)))) + (wrap64 (Int.tdiv (wrap64 ((wrap64 (a0 + 5102378)) - (wrap64 ((wrap64 (Int.tdiv (wrap64 (a0 + 5102378)) 146097)) * 146097)))) 36524)))) - (wrap64 (Int.tdiv (wrap64 ((wrap64 (a0 + 5102378)) - (wrap64 ((wrap64 (Int.tdiv (wrap64 (a0 + 5102378)) 146097)) * 146097)))) 146096)))) 365)) 4)))) - (wrap64 (Int.tdiv (wrap64 (Int.tdiv (wrap64 ((wrap64 ((wrap64 ((wrap64 ((wrap64 (a0 + 5102378)) - (wrap64 ((wrap64 (Int.tdiv (wrap64 (a0 + 5102378)) 146097)) * 146097)))) - (wrap64 (Int.tdiv (wrap64 ((wrap64 (a0 + 5102378)) - (wrap64 ((wrap64 (Int.tdiv (wrap64 (a0 + 5102378)) 146097)) * 146097)))) 1460)))) + (wrap64 (Int.tdiv (wrap64 ((wrap64 (a0 + 5102378)) - (wrap64 ((wrap64 (Int.tdiv (wrap64 (a0 + 5102378)) 146097)) * 146097)))) 36524)))) - (wrap64 (Int.tdiv (wrap64 ((wrap64 (a0 + 5102378)) - (wrap64 ((wrap64 (Int.tdiv (wrap64 (a0 + 5102378)) 146097)) * 146097)))) 146096)))) 365)) 100)))))) - (wrap64 (Int.tdiv (wrap64 ((wrap64 (153 * (wrap64 (Int.tdiv (wrap64 ((wrap64 (5 * (wrap64 ((wrap64 ((wrap64 (a0 + 5102378)) - (wrap64 ((wrap64 (Int.tdiv (wrap64 (a0 + 5102378)) 146097)) * 146097)))) - (wrap64 ((wrap64 ((wrap64 (365 * (wrap64 (Int.tdiv (wrap64 ((wrap64 ((wrap64 ((wrap64 ((wrap64 (a0 + 5102378)) - (wrap64 ((wrap64 (Int.tdiv (wrap64 (a0 + 5102378)) 146097)) * 146097)))) - (wrap64 (Int.tdiv (wrap64 ((wrap64 (a0 + 5102378)) - (wrap64 ((wrap64 (Int.tdiv (wrap64 (a0 + 5102378)) 146097)) * 146097)))) 1460)))) + (wrap64 (Int.tdiv (wrap64 ((wrap64 (a0 + 5102378)) - (wrap64 ((wrap64 (Int.tdiv (wrap64 (a0 + 5102378)) 146097)) * 146097)))) 36524)))) - (wrap64 (Int.tdiv (wrap64 ((wrap64 (a0 + 5102378)) - (wrap64 ((wrap64 (Int.tdiv (wrap64 (a0 + 5102378)) 146097)) * 146097)))) 146096)))) 365)))) + (wrap64 (Int.tdiv (wrap64 (Int.tdiv (wrap64 ((wrap64 ((wrap64 ((wrap64 ((wrap64 (a0 + 5102378)) - (wrap64 ((wrap64 (Int.tdiv (wrap64 (a0 + 5102378)) 146097)) * 146097)))) - (wrap64 (Int.tdiv (wrap64 ((wrap64 (a0 + 5102378)) - (wrap64 ((wrap64 (Int.tdiv (wrap64 (a0 + 5102378)) 146097)) * 146097)))) 1460)))) + (wrap64 (Int.tdiv (wrap64 ((wrap64 (a0 + 5102378)) - (wrap64 ((wrap64 (Int.tdiv (wrap64 (a0 + 5102378)) 146097)) * 146097)))) 36524)))) - (wrap64 (Int.tdiv (wrap64 ((wrap64 (a0 + 5102378)) - (wrap64 ((wrap64 (Int.tdiv (wrap64 (a0 + 5102378)) 146097)) * 146097)))) 146096)))) 365)) 4)))) - (wrap64 (Int.tdiv (wrap64 (Int.tdiv (wrap64 ((wrap64 ((wrap64 ((wrap64 ((wrap64 (a0 + 5102378)) - (wrap64 ((wrap64 (Int.tdiv (wrap64 (a0 + 5102378)) 146097)) * 146097)))) - (wrap64 (Int.tdiv (wrap64 ((wrap64 (a0 + 5102378)) - (wrap64 ((wrap64 (Int.tdiv (wrap64 (a0 + 5102378)) 146097)) * 146097)))) 1460)))) + (wrap64 (Int.tdiv (wrap64 ((wrap64 (a0 + 5102378)) - (wrap64 ((wrap64 (Int.tdiv (wrap64 (a0 + 5102378)) 146097)) * 146097)))) 36524)))) - (wrap64 (Int.tdiv (wrap64 ((wrap64 (a0 + 5102378)) - (wrap64 ((wrap64 (Int.tdiv (wrap64 (a0 + 5102378)) 146097)) * 146097)))) 146096)))) 365)) 100)))))))) + 2)) 153)))) + 2)) 5)))) + 1), 0)) else (some (wrap64 ((wrap64 ((wrap64 (Int.tdiv (wrap64 ((wrap64 ((wrap64 ((wrap64 ((wrap64 (a0 + 5102378)) - (wrap64 ((wrap64 (Int.tdiv (wrap64 (a0 + 5102378)) 146097)) * 146097)))) - (wrap64 (Int.tdiv (wrap64 ((wrap64 (a0 + 5102378)) - (wrap64 ((wrap64 (Int.tdiv (wrap64 (a0 + 5102378)) 146097)) * 146097)))) 1460)))) + (wrap64 (Int.tdiv (wrap64 ((wrap64 (a0 + 5102378)) - (wrap64 ((wrap64 (Int.tdiv (wrap64 (a0 + 5102378)) 146097)) * 146097)))) 36524)))) - (wrap64 (Int.tdiv (wrap64 ((wrap64 (a0 + 5102378)) - (wrap64 ((wrap64 (Int.tdiv (wrap64 (a0 + 5102378)) 146097)) * 146097)))) 146096)))) 365)) + (wrap64 ((wrap64 (Int.tdiv (wrap64 (a0 + 5102378)) 146097)) * 400)))) - 12000), wrap64 ((wrap64 (Int.tdiv (wrap64 ((wrap64 (5 * (wrap64 ((wrap64 ((wrap64 (a0 + 5102378)) - (wrap64 ((wrap64 (Int.tdiv (wrap64 (a0 + 5102378)) 146097)) * 146097)))) - (wrap64 ((wrap64 ((wrap64 (365 * (wrap64 (Int.tdiv (wrap64 ((wrap64 ((wrap64 ((wrap64 ((wrap64 (a0 + 5102378)) - (wrap64 ((wrap64 (Int.tdiv (wrap64 (a0 + 5102378)) 146097)) * 146097)))) - (wrap64 (Int.tdiv (wrap64 ((wrap64 (a0 + 5102378)) - (wrap64 ((wrap64 (Int.tdiv (wrap64 (a0 + 5102378)) 146097)) * 146097)))) 1460)))) + (wrap64 (Int.tdiv (wrap64 ((wrap64 (a0 + 5102378)) - (wrap64 ((wrap64 (Int.tdiv (wrap64 (a0 + 5102378)) 146097)) * 146097)))) 36524)))) - (wrap64 (Int.tdiv (wrap64 ((wrap64 (a0 + 5102378)) - (wrap64 ((wrap64 (Int.tdiv (wrap64 (a0 + 5102378)) 146097)) * 146097)))) 146096)))) 365)))) + (wrap64 (Int.tdiv (wrap64 (Int.tdiv (wrap64 ((wrap64 ((wrap64 ((wrap64 ((wrap64 (a0 + 5102378)) - (wrap64 ((wrap64 (Int.tdiv (wrap64 (a0 + 5102378)) 146097)) * 146097)))) - (wrap64 (Int.tdiv (wrap64 ((wrap64 (a0 + 5102378)) - (wrap64 ((wrap64 (Int.tdiv (wrap64 (a0 + 5102378)) 146097)) * 146097)))) 1460)))) + (wrap64 (Int.tdiv (wrap64 ((wrap64 (a0 + 5102378)) - (wrap64 ((wrap64 (Int.tdiv (wrap64 (a0 + 5102378)) 146097)) * 146097)))) 36524)))) - (wrap64 (Int.tdiv (wrap64 ((wrap64 (a0 + 5102378)) - (wrap64 ((wrap64 (Int.tdiv (wrap64 (a0 + 5102378)) 146097)) * 146097)))) 146096)))) 365)) 4)))) - (wrap64 (Int.tdiv (wrap64 (Int.tdiv (wrap64 ((wrap64 ((wrap64 ((wrap64 ((wrap64 (a0 + 5102378)) - (wrap64 ((wrap64 (Int.tdiv (wrap64 (a0 + 5102378)) 146097)) * 146097)))) - (wrap64 (Int.tdiv (wrap64 ((wrap64 (a0 + 5102378)) - (wrap64 ((wrap64 (Int.tdiv (wrap64 (a0 + 5102378)) 146097)) * 146097)))) 1460)))) + (wrap64 (Int.tdiv (wrap64 ((wrap64 (a0 + 5102378)) - (wrap64 ((wrap64 (Int.tdiv (wrap64 (a0 + 5102378)) 146097)) * 146097)))) 36524)))) - (wrap64 (Int.tdiv (wrap64 ((wrap64 (a0 + 5102378)) - (wrap64 ((wrap64 (Int.tdiv (wrap64 (a0 + 5102378)) 146097)) * 146097)))) 146096)))) 365)) 100)))))))) + 2)) 153)) + 3), wrap64 ((wrap64 ((wrap64 ((wrap64 ((wrap64 (a0 + 5102378)) - (wrap64 ((wrap64 (Int.tdiv (wrap64 (a0 + 5102378)) 146097)) * 146097)))) - (wrap64 ((wrap64 ((wrap64 (365 * (wrap64 (Int.tdiv (wrap64 ((wrap64 ((wrap64 ((wrap64 ((wrap64 (a0 + 5102378)) - (wrap64 ((wrap64 (Int.tdiv (wrap64 (a0 + 5102378)) 146097)) * 146097)))) - (wrap64 (Int.tdiv (wrap64 ((wrap64 (a0 + 5102378)) - (wrap64 ((wrap64 (Int.tdiv (wrap64 (a0 + 5102378)) 146097)) * 146097)))) 1460)))) + (wrap64 (Int.tdiv (wrap64 ((wrap64 (a0 + 5102378)) - (wrap64 ((wrap64 (Int.tdiv (wrap64 (a0 + 5102378)) 146097)) * 146097)))) 36524)))) - (wrap64 (Int.tdiv (wrap64 ((wrap64 (a0 + 5102378)) - (wrap64 ((wrap64 (Int.tdiv (wrap64 (a0 + 5102378)) 146097)) * 146097)))) 146096)))) 365)))) + (wrap64 (Int.tdiv (wrap64 (Int.tdiv (wrap64 ((wrap64 ((wrap64 ((wrap64 ((wrap64 (a0 + 5102378)) - (wrap64 ((wrap64 (Int.tdiv (wrap64 (a0 + 5102378)) 146097)) * 146097)))) - (wrap64 (Int.tdiv (wrap64 ((wrap64 (a0 + 5102378)) - (wrap64 ((wrap64 (Int.tdiv (wrap64 (a0 + 5102378)) 146097)) * 146097)))) 1460)))) + (wrap64 (Int.tdiv (wrap64 ((wrap64 (a0 + 5102378)) - (wrap64 ((wrap64 (Int.tdiv (wrap64 (a0 + 5102378)) 146097)) * 146097)))) 36524)))) - (wrap64 (Int.tdiv (wrap64 ((wrap64 (a0 + 5102378)) - (wrap64 ((wrap64 (Int.tdiv (wrap64 (a0 + 5102378)) 146097)) * 146097)))) 146096)))) 365)) 4)))) - (wrap64 (Int.tdiv (wrap64 (Int.tdiv (wrap64 ((wrap64 ((wrap64 ((wrap64 ((wrap64 (a0 + 5102378)) - (wrap64 ((wrap64 (Int.tdiv (wrap64 (a0 + 5102378)) 146097)) * 146097)))) - (wrap64 (Int.tdiv (wrap64 ((wrap64 (a0 + 5102378)) - (wrap64 ((wrap64 (Int.tdiv (wrap64 (a0 + 5102378)) 146097)) * 146097)))) 1460)))) + (wrap64 (Int.tdiv (wrap64 ((wrap64 (a0 + 5102378)) - (wrap64 ((wrap64 (Int.tdiv (wrap64 (a0 + 5102378)) 146097)) * 146097)))) 36524)))) - (wrap64 (Int.tdiv (wrap64 ((wrap64 (a0 + 5102378)) - (wrap64 ((wrap64 (Int.tdiv (wrap64 (a0 + 5102378)) 146097)) * 146097)))) 146096)))) 365)) 100)))))) - (wrap64 (Int.tdiv (wrap64 ((wrap64 (153 * (wrap64 (Int.tdiv (wrap64 ((wrap64 (5 * (wrap64 ((wrap64 ((wrap64 (a0 + 5102378)) - (wrap64 ((wrap64 (Int.tdiv (wrap64 (a0 + 5102378)) 146097)) * 146097)))) - (wrap64 ((wrap64 ((wrap64 (365 * (wrap64 (Int.tdiv (wrap64 ((wrap64 ((wrap64 ((wrap64 ((wrap64 (a0 + 5102378)) - (wrap64 ((wrap64 (Int.tdiv (wrap64 (a0 + 5102378)) 146097)) * 146097)))) - (wrap64 (Int.tdiv (wrap64 ((wrap64 (a0 + 5102378)) - (wrap64 ((wrap64 (Int.tdiv (wrap64 (a0 + 5102378)) 146097)) * 146097)))) 1460)))) + (wrap64 (Int.tdiv (wrap64 ((wrap64 (a0 + 5102378)) - (wrap64 ((wrap64 (Int.tdiv (wrap64 (a0 + 5102378)) 146097)) * 146097)))) 36524)))) - (wrap64 (Int.tdiv (wrap64 ((wrap64 (a0 + 5102378)) - (wrap64 ((wrap64 (Int.tdiv (wrap64 (a0 + 5102378)) 146097)) * 146097)))) 146096)))) 365)))) + (wrap64 (Int.tdiv (wrap64 (Int.tdiv (wrap64 ((wrap64 ((wrap64 ((wrap64 ((wrap64 (a0 + 5102378)) - (wrap64 ((wrap64 (Int.tdiv (wrap64 (a0 + 5102378)) 146097)) * 146097)))) - (wrap64 (Int.tdiv (wrap64 ((wrap64 (a0 + 5102378)) - (wrap64 ((wrap64 (Int.tdiv (wrap64 (a0 + 5102378)) 146097)) * 146097)))) 1460)))) + (wrap64 (Int.tdiv (wrap64 ((wrap64 (a0 + 5102378)) - (wrap64 ((wrap64 (Int.tdiv (wrap64 (a0 + 5102378)) 146097)) * 146097)))) 36524)))) - (wrap64 (Int.tdiv (wrap64 ((wrap64 (a0 + 5102378)) - (wrap64 ((wrap64 (Int.tdiv (wrap64 (a0 + 5102378)) 146097)) * 146097)))) 146096)))) 365)) 4)))) - (wrap64 (Int.tdiv (wrap64 (Int.tdiv (wrap64 ((wrap64 ((wrap64 ((wrap64 ((wrap64 (a0 + 5102378)) - (wrap64 ((wrap64 (Int.tdiv (wrap64 (a0 + 5102378)) 146097)) * 146097)))) - (wrap64 (Int.tdiv (wrap64 ((wrap64 (a0 + 5102378)) - (wrap64 ((wrap64 (Int.tdiv (wrap64 (a0 + 5102378)) 146097)) * 146097)))) 1460)))) + (wrap64 (Int.tdiv (wrap64 ((wrap64 (a0 + 5102378)) - (wrap64 ((wrap64 (Int.tdiv (wrap64 (a0 + 5102378)) 146097)) * 146097)))) 36524)))) - (wrap64 (Int.tdiv (wrap64 ((wrap64 (a0 + 5102378)) - (wrap64 ((wrap64 (Int.tdiv (wrap64 (a0 + 5102378)) 146097)) * 146097)))) 146096)))) 365)) 100)))))))) + 2)) 153)))) + 2)) 5)))) + 1), 0))) = some (r1, r2, r3, r4) := by rw [if_neg (show ¬ (false = true) by decide)] at H; exact H
        clear H
        have H := H1
        clear H1
        by_cases c7 : (wrap64 ((wrap64 (Int.tdiv (wrap64 ((wrap64 (5 * (wrap64 ((wrap64 ((wrap64 (a0 + 5102378)) - (wrap64 ((wrap64 (Int.tdiv (wrap64 (a0 + 5102378)) 146097)) * 146097)))) - (wrap64 ((wrap64 ((wrap64 (365 * (wrap64 (Int.tdiv (wrap64 ((wrap64 ((wrap64 ((wrap64 ((wrap64 (a0 + 5102378)) - (wrap64 ((wrap64 (Int.tdiv (wrap64 (a0 + 5102378)) 146097)) * 146097)))) - (wrap64 (Int.tdiv (wrap64 ((wrap64 (a0 + 5102378)) - (wrap64 ((wrap64 (Int.tdiv (wrap64 (a0 + 5102378)) 146097)) * 146097)))) 1460)))) + (wrap64 (Int.tdiv (wrap64 ((wrap64 (a0 + 5102378)) - (wrap64 ((wrap64 (Int.tdiv (wrap64 (a0 + 5102378)) 146097)) * 146097)))) 36524)))) - (wrap64 (Int.tdiv (wrap64 ((wrap64 (a0 + 5102378)) - (wrap64 ((wrap64 (Int.tdiv (wrap64 (a0 + 5102378)) 146097)) * 146097)))) 146096)))) 365)))) + (wrap64 (Int.tdiv (wrap64 (Int.tdiv (wrap64 ((wrap64 ((wrap64 ((wrap64 ((wrap64 (a0 + 5102378)) - (wrap64 ((wrap64 (Int.tdiv (wrap64 (a0 + 5102378)) 146097)) * 146097)))) - (wrap64 (Int.tdiv (wrap64 ((wrap64 (a0 + 5102378)) - (wrap64 ((wrap64 (Int.tdiv (wrap64 (a0 + 5102378)) 146097)) * 146097)))) 1460)))) + (wrap64 (Int.tdiv (wrap64 ((wrap64 (a0 + 5102378)) - (wrap64 ((wrap64 (Int.tdiv (wrap64 (a0 + 5102378)) 146097)) * 146097)))) 36524)))) - (wrap64 (Int.tdiv (wrap64 ((wrap64 (a0 + 5102378)) - (wrap64 ((wrap64 (Int.tdiv (wrap64 (a0 + 5102378)) 146097)) * 146097)))) 146096)))) 365)) 4)))) - (wrap64 (Int.tdiv (wrap64 (Int.tdiv (wrap64 ((wrap64 ((wrap64 ((wrap64 ((wrap64 (a0 + 5102378)) - (wrap64 ((wrap64 (Int.tdiv (wrap64 (a0 + 5102378)) 146097)) * 146097)))) - (wrap64 (Int.tdiv (wrap64 ((wrap64 (a0 + 5102378)) - (wrap64 ((wrap64 (Int.tdiv (wrap64 (a0 + 5102378)) 146097)) * 146097)))) 1460)))) + (wrap64 (Int.tdiv (wrap64 ((wrap64 (a0 + 5102378)) - (wrap64 ((wrap64 (Int.tdiv (wrap64 (a0 + 5102378)) 146097)) * 146097)))) 36524)))) - (wrap64 (Int.tdiv (wrap64 ((wrap64 (a0 + 5102378)) - (wrap64 ((wrap64 (Int.tdiv (wrap64 (a0 + 5102378)) 146097)) * 146097)))) 146096)))) 365)) 100)))))))) + 2)) 153)) + 3)) > 12
        · rw [if_pos c7] at H
          have c7b0 : decide (12 < (wrap64 ((wrap64 (Int.tdiv (wrap64 ((wrap64 (5 * (wrap64 ((wrap64 ((wrap64 (a0 + 5102378)) - (wrap64 ((wrap64 (Int.tdiv (wrap64 (a0 + 5102378)) 146097)) * 146097)))) - (wrap64 ((wrap64 ((wrap64 (365 * (wrap64 (Int.tdiv (wrap64 ((wrap64 ((wrap64 ((wrap64 ((wrap64 (a0 + 5102378)) - (wrap64 ((wrap64 (Int.tdiv (wrap64 (a0 + 5102378)) 146097)) * 146097)))) - (wrap64 (Int.tdiv (wrap64 ((wrap64 (a0 + 5102378)) - (wrap64 ((wrap64 (Int.tdiv (wrap64 (a0 + 5102378)) 146097)) * 146097)))) 1460)))) + (wrap64 (Int.tdiv (wrap64 ((wrap64 (a0 + 5102378)) - (wrap64 ((wrap64 (Int.tdiv (wrap64 (a0 + 5102378)) 146097)) * 146097)))) 36524)))) - (wrap64 (Int.tdiv (wrap64 ((wrap64 (a0 + 5102378)) - (wrap64 ((wrap64 (Int.tdiv (wrap64 (a0 + 5102378)) 146097)) * 146097)))) 146096)))) 365)))) + (wrap64 (Int.tdiv (wrap64 (Int.tdiv (wrap64 ((wrap64 ((wrap64 ((wrap64 ((wrap64 (a0 + 5102378)) - (wrap64 ((wrap64 (Int.tdiv (wrap64 (a0 + 5102378)) 146097)) * 146097)))) - (wrap64 (Int.tdiv (wrap64 ((wrap64 (a0 + 5102378)) - (wrap64 ((wrap64 (Int.tdiv (wrap64 (a0 + 5102378)) 146097)) * 146097)))) 1460)))) + (wrap64 (Int.tdiv (wrap64 ((wrap64 (a0 + 5102378)) - (wrap64 ((wrap64 (Int.tdiv (wrap64 (a0 + 5102378)) 146097)) * 146097)))) 36524)))) - (wrap64 (Int.tdiv (wrap64 ((wrap64 (a0 + 5102378)) - (wrap64 ((wrap64 (Int.tdiv (wrap64 (a0 + 5102378)) 146097)) * 146097)))) 146096)))) 365)) 4)))) - (wrap64 (Int.tdiv (wrap64 (Int.tdiv (wrap64 ((wrap64 ((wrap64 ((wrap64 ((wrap64 (a0 + 5102378)) - (wrap64 ((wrap64 (Int.tdiv (wrap64 (a0 + 5102378)) 146097)) * 146097)))) - (wrap64 (Int.tdiv (wrap64 ((wrap64 (a0 + 5102378)) - (wrap64 ((wrap64 (Int.tdiv (wrap64 (a0 + 5102378)) 146097)) * 146097)))) 1460)))) + (wrap64 (Int.tdiv (wrap64 ((wrap64 (a0 + 5102378)) - (wrap64 ((wrap64 (Int.tdiv (wrap64 (a0 + 5102378)) 146097)) * 146097)))) 36524)))) - (wrap64 (Int.tdiv (wrap64 ((wrap64 (a0 + 5102378)) - (wrap64 ((wrap64 (Int.tdiv (wrap64 (a0 + 5102378)) 146097)) * 146097)))) 146096)))) 365)) 100)))))))) + 2)) 153)) + 3))) = true := decide_eq_true c7
          clear c7
          simp only [Option.some.injEq, Prod.mk.injEq] at H
          obtain ⟨rfl, rfl, rfl, rfl⟩ := H
          go_wp2
          refine bodyPost_ret (results_list (rs := [.tmp 2, .tmp 3, .tmp 4, .tmp 5]) rfl (by simp) (.tmp (.tmp (.tmp (.tmp .nil))))) rfl ?_
          exact ⟨by first | rfl | (simp; done) | (simp [*]; done), by repeat (first | exact Drawn0.refl _ | apply Drawn0.step)⟩
        · rw [if_neg c7] at H
          have c7b0 : decide (12 < (wrap64 ((wrap64 (Int.tdiv (wrap64 ((wrap64 (5 * (wrap64 ((wrap64 ((wrap64 (a0 + 5102378)) - (wrap64 ((wrap64 (Int.tdiv (wrap64 (a0 + 5102378)) 146097)) * 146097)))) - (wrap64 ((wrap64 ((wrap64 (365 * (wrap64 (Int.tdiv (wrap64 ((wrap64 ((wrap64 ((wrap64 ((wrap64 (a0 + 5102378)) - (wrap64 ((wrap64 (Int.tdiv (wrap64 (a0 + 5102378)) 146097)) * 146097)))) - (wrap64 (Int.tdiv (wrap64 ((wrap64 (a0 + 5102378)) - (wrap64 ((wrap64 (Int.tdiv (wrap64 (a0 + 5102378)) 146097)) * 146097)))) 1460)))) + (wrap64 (Int.tdiv (wrap64 ((wrap64 (a0 + 5102378)) - (wrap64 ((wrap64 (Int.tdiv (wrap64 (a0 + 5102378)) 146097)) * 146097)))) 36524)))) - (wrap64 (Int.tdiv (wrap64 ((wrap64 (a0 + 5102378)) - (wrap64 ((wrap64 (Int.tdiv (wrap64 (a0 + 5102378)) 146097)) * 146097)))) 146096)))) 365)))) + (wrap64 (Int.tdiv (wrap64 (Int.tdiv (wrap64 ((wrap64 ((wrap64 ((wrap64 ((wrap64 (a0 + 5102378)) - (wrap64 ((wrap64 (Int.tdiv (wrap64 (a0 + 5102378)) 146097)) * 146097)))) - (wrap64 (Int.tdiv (wrap64 ((wrap64 (a0 + 5102378)) - (wrap64 ((wrap64 (Int.tdiv (wrap64 (a0 + 5102378)) 146097)) * 146097)))) 1460)))) + (wrap64 (Int.tdiv (wrap64 ((wrap64 (a0 + 5102378)) - (wrap64 ((wrap64 (Int.tdiv (wrap64 (a0 + 5102378)) 146097)) * 146097)))) 36524)))) - (wrap64 (Int.tdiv (wrap64 ((wrap64 (a0 + 5102378)) - (wrap64 ((wrap64 (Int.tdiv (wrap64 (a0 + 5102378)) 146097)) * 146097)))) 146096)))) 365)) 4)))) - (wrap64 (Int.tdiv (wrap64 (Int.tdiv (wrap64 ((wrap64 ((wrap64 ((wrap64 ((wrap64 (a0 + 5102378)) - (wrap64 ((wrap64 (Int.tdiv (wrap64 (a0 + 5102378)) 146097)) * 146097)))) - (wrap64 (Int.tdiv (wrap64 ((wrap64 (a0 + 5102378)) - (wrap64 ((wrap64 (Int.tdiv (wrap64 (a0 + 5102378)) 146097)) * 146097)))) 1460)))) + (wrap64 (Int.tdiv (wrap64 ((wrap64 (a0 + 5102378)) - (wrap64 ((wrap64 (Int.tdiv (wrap64 (a0 + 5102378)) 146097)) * 146097)))) 36524)))) - (wrap64 (Int.tdiv (wrap64 ((wrap64 (a0 + 5102378)) - (wrap64 ((wrap64 (Int.tdiv (wrap64 (a0 + 5102378)) 146097)) * 146097)))) 146096)))) 365)) 100)))))))) + 2)) 153)) + 3))) = false := decide_eq_false c7
          clear c7
          simp only [Option.some.injEq, Prod.mk.injEq] at H
          obtain ⟨rfl, rfl, rfl, rfl⟩ := H
          go_wp2
          refine bodyPost_ret (results_list (rs := [.tmp 2, .tmp 3, .tmp 4, .tmp 5]) rfl (by simp) (.tmp (.tmp (.tmp (.tmp .nil))))) rfl ?_
          exact ⟨by first | rfl | (simp; done) | (simp [*]; done), by repeat (first | exact Drawn0.refl _ | apply Drawn0.step)⟩

end Go.Proofs.Ytiiaaomfjomccaa.S
