-- Written by a program of this session for this claim (it follows the print's forms). Not trusted: Lean checks it.
import Derived.Test.YtmohadimhapacaaS0
import Derived.Test.YtmohadimhapacaaS2
namespace Go.Proofs.Ytmohadimhapacaa.S
open Go.RowKit Go.Proofs.YtmohadimhapacaaW.PrintWords Go.Proofs.YtmohadimhapacaaW.PrintLast Go.Proofs.YtmohadimhapacaaW.PrintMore
attribute [local go_sem] max2_int min2_int max_two min_two max_three min_three max_four min_four   -- for this text's walks alone
set_option linter.unusedVariables false
set_option linter.unusedSimpArgs false

/-! ### escape_ParseInt: function 20 -/
mutual
def escape_ParseInt.j0 : Nat → ByteArray → Bool → Bool → Option (Int × Int)
  | 0, _, _, _ => none
  | k + 1, x4, x5, x26 => if x26 = true then (some (0, 3)) else (if x5 = true then (escape_ParseInt.j1 k x4 x5 (9223372036854775807 + 1)) else (escape_ParseInt.j1 k x4 x5 9223372036854775807))
def escape_ParseInt.j1 : Nat → ByteArray → Bool → Int → Option (Int × Int)
  | 0, _, _, _ => none
  | k + 1, x4, x5, x6 => escape_ParseInt.l0 k x4 x5 x6 0 false (x4.size : Int) 0
def escape_ParseInt.l0 : Nat → ByteArray → Bool → Int → Int → Bool → Int → Int → Option (Int × Int)
  | 0, _, _, _, _, _, _, _ => none
  | k + 1, x4, x5, x6, x7, x8, x31, x32 => if x32 < x31 then (if 0 ≤ x32 then (if x32 < (x4.size : Int) then (if (((bt x4 x32) - 48) % 256) > 9 then (some (0, 3)) else (if x8 = true then (escape_ParseInt.l0 k x4 x5 x6 x7 true x31 (wrap64 (x32 + 1))) else (if (x7 > (IntKind.u64.wrap (Int.tdiv (IntKind.u64.wrap (x6 - (((bt x4 x32) - 48) % 256))) 10))) then (escape_ParseInt.l0 k x4 x5 x6 x7 (decide (x7 > (IntKind.u64.wrap (Int.tdiv (IntKind.u64.wrap (x6 - (((bt x4 x32) - 48) % 256))) 10)))) x31 (wrap64 (x32 + 1))) else (escape_ParseInt.l0 k x4 x5 x6 (IntKind.u64.wrap ((IntKind.u64.wrap (x7 * 10)) + (((bt x4 x32) - 48) % 256))) (decide (x7 > (IntKind.u64.wrap (Int.tdiv (IntKind.u64.wrap (x6 - (((bt x4 x32) - 48) % 256))) 10)))) x31 (wrap64 (x32 + 1)))))) else (none)) else (none)) else (if x8 = true then (some (0, 2)) else (if x5 = true then (some (wrap64 (IntKind.u64.wrap (-x7)), 0)) else (some (wrap64 (x7), 0))))
end
def escape_ParseInt.f (k : Nat) (a0 : ByteArray) : Option (Int × Int) := (strings_CutPrefix.f a0 (⟨#[45]⟩ : ByteArray)).bind fun bt211 => (if bt211.1.toList = ([] : List UInt8) then (escape_ParseInt.j0 k bt211.1 bt211.2 true) else (if 0 < (bt211.1.size : Int) then (if (bt bt211.1 0) = 48 then (escape_ParseInt.j0 k bt211.1 bt211.2 (a0.toList != ([48] : List UInt8))) else (escape_ParseInt.j0 k bt211.1 bt211.2 false)) else (none)))
theorem escape_ParseInt.mono_l : ∀ k, (∀ y0 y1 y2, LeO (escape_ParseInt.j0 k y0 y1 y2) (escape_ParseInt.j0 (k + 1) y0 y1 y2)) ∧ (∀ y0 y1 y2, LeO (escape_ParseInt.j1 k y0 y1 y2) (escape_ParseInt.j1 (k + 1) y0 y1 y2)) ∧ (∀ y0 y1 y2 y3 y4 y5 y6, LeO (escape_ParseInt.l0 k y0 y1 y2 y3 y4 y5 y6) (escape_ParseInt.l0 (k + 1) y0 y1 y2 y3 y4 y5 y6))
  | 0 => ⟨fun _ _ _ r h => by simp [escape_ParseInt.j0] at h, fun _ _ _ r h => by simp [escape_ParseInt.j1] at h, fun _ _ _ _ _ _ _ r h => by simp [escape_ParseInt.l0] at h⟩
  | k + 1 => by
    obtain ⟨ih0, ih1, ih2⟩ := escape_ParseInt.mono_l k
    refine ⟨?_, ?_, ?_⟩
    · intro y0 y1 y2
      unfold escape_ParseInt.j0
      repeat' first
      | (with_reducible exact ih0 _ _ _)
      | (with_reducible exact ih1 _ _ _)
      | (with_reducible exact ih2 _ _ _ _ _ _ _)
      | (with_reducible exact LeO.refl _)
      | (with_reducible exact LeO.none _)
      | (with_reducible refine LeO.ite ?_ ?_)
      | (with_reducible refine LeO.bind ?_ (fun _ => ?_))
      | exact ih0 _ _ _
      | exact ih1 _ _ _
      | exact ih2 _ _ _ _ _ _ _
      | exact LeO.none _
      | refine LeO.ite ?_ ?_
      | refine LeO.bind ?_ (fun _ => ?_)
    · intro y0 y1 y2
      unfold escape_ParseInt.j1
      repeat' first
      | (with_reducible exact ih0 _ _ _)
      | (with_reducible exact ih1 _ _ _)
      | (with_reducible exact ih2 _ _ _ _ _ _ _)
      | (with_reducible exact LeO.refl _)
      | (with_reducible exact LeO.none _)
      | (with_reducible refine LeO.ite ?_ ?_)
      | (with_reducible refine LeO.bind ?_ (fun _ => ?_))
      | exact ih0 _ _ _
      | exact ih1 _ _ _
      | exact ih2 _ _ _ _ _ _ _
      | exact LeO.none _
      | refine LeO.ite ?_ ?_
      | refine LeO.bind ?_ (fun _ => ?_)
    · intro y0 y1 y2 y3 y4 y5 y6
      unfold escape_ParseInt.l0
      repeat' first
      | (with_reducible exact ih0 _ _ _)
      | (with_reducible exact ih1 _ _ _)
      | (with_reducible exact ih2 _ _ _ _ _ _ _)
      | (with_reducible exact LeO.refl _)
      | (with_reducible exact LeO.none _)
      | (with_reducible refine LeO.ite ?_ ?_)
      | (with_reducible refine LeO.bind ?_ (fun _ => ?_))
      | exact ih0 _ _ _
      | exact ih1 _ _ _
      | exact ih2 _ _ _ _ _ _ _
      | exact LeO.none _
      | refine LeO.ite ?_ ?_
      | refine LeO.bind ?_ (fun _ => ?_)
theorem escape_ParseInt.mono : ∀ a0 k, LeO (escape_ParseInt.f k a0) (escape_ParseInt.f (k + 1) a0) := by
  intro a0 k
  obtain ⟨ih0, ih1, ih2⟩ := escape_ParseInt.mono_l k
  unfold escape_ParseInt.f
  repeat' first
      | (with_reducible exact ih0 _ _ _)
      | (with_reducible exact ih1 _ _ _)
      | (with_reducible exact ih2 _ _ _ _ _ _ _)
      | (with_reducible exact LeO.refl _)
      | (with_reducible exact LeO.none _)
      | (with_reducible refine LeO.ite ?_ ?_)
      | (with_reducible refine LeO.bind ?_ (fun _ => ?_))
      | exact ih0 _ _ _
      | exact ih1 _ _ _
      | exact ih2 _ _ _ _ _ _ _
      | exact LeO.none _
      | refine LeO.ite ?_ ?_
      | refine LeO.bind ?_ (fun _ => ?_)
set_option maxHeartbeats 8000000 in
set_option maxRecDepth 100000 in
theorem escape_ParseInt.calls (k : Nat) (a0 : ByteArray) (r1 : Int) (r2 : Int) (w : World) (h : escape_ParseInt.f k a0 = some (r1, r2)) :
    Calls Try.prog 20 #[.string a0] w fun e w' => e = .returned (.tuple #[.int .i64 r1, .int .i64 r2]) ∧ Drawn0 w w' := by
  have H : ((strings_CutPrefix.f a0 (⟨#[45]⟩ : ByteArray)).bind fun bt211 => (if bt211.1.toList = ([] : List UInt8) then (escape_ParseInt.j0 k bt211.1 bt211.2 true) else (if 0 < (bt211.1.size : Int) then (if (bt bt211.1 0) = 48 then (escape_ParseInt.j0 k bt211.1 bt211.2 (a0.toList != ([48] : List UInt8))) else (escape_ParseInt.j0 k bt211.1 bt211.2 false)) else (none)))) = some (r1, r2) := h
  clear h
  replace H := Option.bind_eq_some_iff.mp H
  obtain ⟨⟨t211, t212⟩, A20, H⟩ := H
  replace H : (if t211.toList = ([] : List UInt8) then (escape_ParseInt.j0 k t211 t212 true) else (if 0 < (t211.size : Int) then (if (bt t211 0) = 48 then (escape_ParseInt.j0 k t211 t212 (a0.toList != ([48] : List UInt8))) else (escape_ParseInt.j0 k t211 t212 false)) else (none))) = some (r1, r2) := H
  have A2 := Aside0.mk A20
  clear A20
  have HC3 := Aside0.mk H
  clear H
  go_enter Try.func20, Try.ntmps20
  go_upto_region 2 with (first | ((with_reducible refine gate_callee (f := 30) rfl ?_); refine goesL_ (some 13) rfl rfl Try.func30 (by kernel_rfl) rfl #[.string a0, .string (⟨#[45]⟩ : ByteArray)] rfl (by (try simp only [List.map_toArray, List.map_cons, List.map_nil]); first | done | rfl | (simp only [List.length_drop, List.length_take]; rfl)) ?_; (with_reducible refine (strings_CutPrefix.calls a0 (⟨#[45]⟩ : ByteArray) t211 t212 _ A2.out).mono ?_); rintro e w' ⟨rfl, ⟨nd, rfl⟩⟩; refine ⟨_, rfl, ?_⟩))
  (try simp only [Act.put, List.setIfInBounds_toArray, List.set_cons_zero, List.set_cons_succ])
  go_cut [26] (fun v26 wc => ∃ (kq : Nat) (x26_2 : Bool), v26 = .bool x26_2 ∧ Aside0 (escape_ParseInt.j0 kq t211 t212 x26_2 = some (r1, r2)) ∧ Aside0 (kq ≤ k) ∧ Drawn0 w wc)
  case first =>
    have H := HC3.out
    clear HC3
    by_cases c4 : t211.toList = ([] : List UInt8)
    · rw [if_pos c4] at H
      have c4b0 : (t211.toList == ([] : List UInt8)) = true := beq_iff_eq.mpr c4
      have c4b1 : (t211.toList != ([] : List UInt8)) = false := bne_eq_false_iff_eq.mpr c4
      clear c4
      (first | rw [c4b0] | (simp only [i64_w, i32_w]; rw [c4b0]) | skip)
      have H' := Aside0.mk H
      clear H
      go_wp2
      go_meet
      case rel => exact ⟨_, (true), (by first | rfl | (simp; done) | (simp [*]; done)), H', ⟨by first | omega | exact Nat.le_refl _⟩, by repeat (first | exact Drawn0.refl _ | apply Drawn0.step)⟩
    · rw [if_neg c4] at H
      have c4b0 : (t211.toList == ([] : List UInt8)) = false := beq_eq_false_iff_ne.mpr c4
      have c4b1 : (t211.toList != ([] : List UInt8)) = true := bne_iff_ne.mpr c4
      (first | rw [c4b0] | (simp only [i64_w, i32_w]; rw [c4b0]) | skip)
      by_cases c5 : 0 < (t211.size : Int)
      · rw [if_pos c5] at H
        have c5b0 : decide (0 < (t211.size : Int)) = true := decide_eq_true c5
        have c5b1 : decide (0 < t211.size) = true := decide_eq_true (by omega)
        clear c5
        by_cases c7 : (bt t211 0) = 48
        · rw [if_pos c7] at H
          have c7b0 : ((bt t211 0) == 48) = true := beq_iff_eq.mpr c7
          have c7b1 : ((bt t211 0) != 48) = false := bne_eq_false_iff_eq.mpr c7
          clear c7
          have H' := Aside0.mk H
          clear H
          have p6 : 0 ≤ (0 : Int) := (by omega)
          have q6 : 0 < t211.size := (by have : (0 : Int) < (t211.size : Int) := of_decide_eq_true (by first | (with_reducible assumption) | assumption); omega)
          have hx6 : ∀ h : 0 < t211.size, ((t211[0]'h).toNat : Int) = bt t211 0 := bt_at t211 0
          clear p6
          have qi6 : (0 < (t211.size : Int)) = True := eq_true (of_decide_eq_true (by first | (with_reducible assumption) | assumption))
          replace q6 := eq_true q6
          go_wp2
          go_meet
          case rel => exact ⟨_, ((a0.toList != ([48] : List UInt8))), (by first | rfl | (simp; done) | (simp [*]; done)), H', ⟨by first | omega | exact Nat.le_refl _⟩, by repeat (first | exact Drawn0.refl _ | apply Drawn0.step)⟩
        · rw [if_neg c7] at H
          have c7b0 : ((bt t211 0) == 48) = false := beq_eq_false_iff_ne.mpr c7
          have c7b1 : ((bt t211 0) != 48) = true := bne_iff_ne.mpr c7
          have H' := Aside0.mk H
          clear H
          have p6 : 0 ≤ (0 : Int) := (by omega)
          have q6 : 0 < t211.size := (by have : (0 : Int) < (t211.size : Int) := of_decide_eq_true (by first | (with_reducible assumption) | assumption); omega)
          have hx6 : ∀ h : 0 < t211.size, ((t211[0]'h).toNat : Int) = bt t211 0 := bt_at t211 0
          clear p6
          have qi6 : (0 < (t211.size : Int)) = True := eq_true (of_decide_eq_true (by first | (with_reducible assumption) | assumption))
          replace q6 := eq_true q6
          go_wp2
          go_meet
          case rel => exact ⟨_, (false), (by first | rfl | (simp; done) | (simp [*]; done)), H', ⟨by first | omega | exact Nat.le_refl _⟩, by repeat (first | exact Drawn0.refl _ | apply Drawn0.step)⟩
      · rw [if_neg c5] at H
        exact absurd H (by simp)
  case rest =>
    clear HC3
    try clear c2
    try clear p2
    try clear c3
    try clear c4
    try clear c4b0
    try clear c4b1
    try clear c5
    try clear c5b0
    try clear c5b1
    try clear p6
    try clear q6
    try clear hx6
    try clear qi6
    try clear c7
    try clear c7b0
    try clear c7b1
    try clear p6
    try clear q6
    obtain ⟨kq, x26_2, rfl, HA, HJ2, ⟨mc2, rfl⟩⟩ := hcut
    cases kq with
    | zero => exact absurd HA.out (by simp [escape_ParseInt.j0])
    | succ kj2 =>
      have H := HA.out
      clear HA
      simp only [escape_ParseInt.j0] at H
      by_cases c8 : x26_2 = true
      · subst c8
        have H1 : (some (0, 3)) = some (r1, r2) := by rw [if_pos rfl] at H; exact H
        clear H
        have H := H1
        clear H1
        simp only [Option.some.injEq, Prod.mk.injEq] at H
        obtain ⟨rfl, rfl⟩ := H
        go_wp2
        go_ret2
        exact ⟨by first | rfl | (simp; done) | (simp [*]; done), by repeat (first | exact Drawn0.refl _ | apply Drawn0.step)⟩
      · replace c8 := Bool.eq_false_iff.mpr c8
        subst c8
        have H1 : (if t212 = true then (escape_ParseInt.j1 kj2 t211 t212 (9223372036854775807 + 1)) else (escape_ParseInt.j1 kj2 t211 t212 9223372036854775807)) = some (r1, r2) := by rw [if_neg (show ¬ (false = true) by decide)] at H; exact H
        clear H
        have H := H1
        clear H1
        have HC9 := Aside0.mk H
        clear H
        go_upto_if 27 with (fail)
        go_cut [6] (fun v6 wc => ∃ (kq : Nat) (x6_8 : Int), v6 = .int .u64 x6_8 ∧ Aside0 (escape_ParseInt.j1 kq t211 t212 x6_8 = some (r1, r2)) ∧ Aside0 (kq ≤ kj2) ∧ Drawn0 w wc)
        case first =>
          have H := HC9.out
          clear HC9
          by_cases c10 : t212 = true
          · subst c10
            have H1 : (escape_ParseInt.j1 kj2 t211 true (9223372036854775807 + 1)) = some (r1, r2) := by rw [if_pos rfl] at H; exact H
            clear H
            have H := H1
            clear H1
            have H' := Aside0.mk H
            clear H
            go_wp2
            go_meet
            case rel => exact ⟨_, (9223372036854775807 + 1), (by first | rfl | (simp; done) | (simp [*]; done)), H', ⟨by have := HJ2.out; first | omega | exact Nat.le_refl _⟩, by repeat (first | exact Drawn0.refl _ | apply Drawn0.step)⟩
          · replace c10 := Bool.eq_false_iff.mpr c10
            subst c10
            have H1 : (escape_ParseInt.j1 kj2 t211 false 9223372036854775807) = some (r1, r2) := by rw [if_neg (show ¬ (false = true) by decide)] at H; exact H
            clear H
            have H := H1
            clear H1
            have H' := Aside0.mk H
            clear H
            go_wp2
            go_meet
            case rel => exact ⟨_, (9223372036854775807), (by first | rfl | (simp; done) | (simp [*]; done)), H', ⟨by have := HJ2.out; first | omega | exact Nat.le_refl _⟩, by repeat (first | exact Drawn0.refl _ | apply Drawn0.step)⟩
        case rest =>
          clear HC9
          try clear c1
          try clear c2
          try clear p2
          try clear c3
          try clear c4
          try clear c4b0
          try clear c4b1
          try clear c5
          try clear c5b0
          try clear c5b1
          try clear p6
          try clear q6
          try clear hx6
          try clear qi6
          try clear c7
          try clear c7b0
          try clear c7b1
          try clear c8
          try clear c10
          try clear p2
          try clear p6
          try clear q6
          obtain ⟨kq, x6_8, rfl, HA, HJ8, ⟨mc8, rfl⟩⟩ := hcut
          cases kq with
          | zero => exact absurd HA.out (by simp [escape_ParseInt.j1])
          | succ kj8 =>
            have H := HA.out
            clear HA
            simp only [escape_ParseInt.j1] at H
            have H' := Aside0.mk H
            clear H
            go_wp2
            go_loopg [7, 8, 32] kj8 (fun kq v7 v8 v32 w' => ∃ (x7_3 : Int) (x8_3 : Bool) (x32_3 : Int), v7 = .int .u64 x7_3 ∧ v8 = .bool x8_3 ∧ v32 = .int .i64 x32_3 ∧ Aside0 (escape_ParseInt.l0 kq t211 t212 x6_8 x7_3 x8_3 (t211.size : Int) x32_3 = some (r1, r2)) ∧ Aside0 (kq ≤ kj8) ∧ Drawn0 w w')
            case atStart => exact ⟨(0), (false), (0), (by first | rfl | (simp; done) | (simp [*]; done)), (by first | rfl | (simp; done) | (simp [*]; done)), (by first | rfl | (simp; done) | (simp [*]; done)), H', ⟨Nat.le_refl _⟩, by repeat (first | exact Drawn0.refl _ | apply Drawn0.step)⟩
            case round =>
              clear H'
              try clear c1
              try clear c2
              try clear p2
              try clear c3
              try clear c4
              try clear c4b0
              try clear c4b1
              try clear c5
              try clear c5b0
              try clear c5b1
              try clear p6
              try clear q6
              try clear hx6
              try clear qi6
              try clear c7
              try clear c7b0
              try clear c7b1
              try clear c8
              try clear c10
              try clear p2
              try clear p6
              try clear q6
              obtain ⟨x7_3, x8_3, x32_3, rfl, rfl, rfl, HA, HK3, ⟨m3, rfl⟩⟩ := hrel
              cases gk with
              | zero => exact absurd HA.out (by simp [escape_ParseInt.l0])
              | succ k3 =>
                have H := HA.out
                clear HA
                simp only [escape_ParseInt.l0] at H
                by_cases c11 : x32_3 < (t211.size : Int)
                · rw [if_pos c11] at H
                  have c11b0 : decide (x32_3 < (t211.size : Int)) = true := decide_eq_true c11
                  clear c11
                  by_cases c12 : 0 ≤ x32_3
                  · rw [if_pos c12] at H
                    have c12b0 : decide (0 ≤ x32_3) = true := decide_eq_true c12
                    clear c12
                    by_cases c13 : x32_3 < (t211.size : Int)
                    · rw [if_pos c13] at H
                      have c13b0 : decide (x32_3 < (t211.size : Int)) = true := decide_eq_true c13
                      clear c13
                      by_cases c15 : (((bt t211 x32_3) - 48) % 256) > 9
                      · rw [if_pos c15] at H
                        have c15b0 : decide (9 < (((bt t211 x32_3) - 48) % 256)) = true := decide_eq_true c15
                        clear c15
                        simp only [Option.some.injEq, Prod.mk.injEq] at H
                        obtain ⟨rfl, rfl⟩ := H
                        have p14 : 0 ≤ (x32_3 : Int) := of_decide_eq_true (by first | (with_reducible assumption) | assumption)
                        have q14 : x32_3 < (t211.size : Int) := of_decide_eq_true (by first | (with_reducible assumption) | assumption)
                        have hx14 := bt_at t211 x32_3
                        replace p14 := eq_true p14
                        replace q14 := eq_true q14
                        go_wp2
                        go_ret2
                        exact ⟨by first | rfl | (simp; done) | (simp [*]; done), by repeat (first | exact Drawn0.refl _ | apply Drawn0.step)⟩
                      · rw [if_neg c15] at H
                        have c15b0 : decide (9 < (((bt t211 x32_3) - 48) % 256)) = false := decide_eq_false c15
                        clear c15
                        by_cases c16 : x8_3 = true
                        · subst c16
                          have H1 : (escape_ParseInt.l0 k3 t211 t212 x6_8 x7_3 true (t211.size : Int) (wrap64 (x32_3 + 1))) = some (r1, r2) := by rw [if_pos rfl] at H; exact H
                          clear H
                          have H := H1
                          clear H1
                          have H' := Aside0.mk H
                          clear H
                          have p14 : 0 ≤ (x32_3 : Int) := of_decide_eq_true (by first | (with_reducible assumption) | assumption)
                          have q14 : x32_3 < (t211.size : Int) := of_decide_eq_true (by first | (with_reducible assumption) | assumption)
                          have hx14 := bt_at t211 x32_3
                          replace p14 := eq_true p14
                          replace q14 := eq_true q14
                          go_wp2
                          go_roundg k3
                          case measure => have := HJ2.out; have := HJ8.out; have := HK3.out; omega
                          case rel => exact ⟨(x7_3), (true), (wrap64 (x32_3 + 1)), (by first | rfl | (simp; done) | (simp [*]; done)), (by first | rfl | (simp; done) | (simp [*]; done)), (by first | rfl | (simp; done) | (simp [*]; done)), H', ⟨by have := HJ2.out; have := HJ8.out; have := HK3.out; omega⟩, by repeat (first | exact Drawn0.refl _ | apply Drawn0.step)⟩
                        · replace c16 := Bool.eq_false_iff.mpr c16
                          subst c16
                          have H1 : (if (x7_3 > (IntKind.u64.wrap (Int.tdiv (IntKind.u64.wrap (x6_8 - (((bt t211 x32_3) - 48) % 256))) 10))) then (escape_ParseInt.l0 k3 t211 t212 x6_8 x7_3 (decide (x7_3 > (IntKind.u64.wrap (Int.tdiv (IntKind.u64.wrap (x6_8 - (((bt t211 x32_3) - 48) % 256))) 10)))) (t211.size : Int) (wrap64 (x32_3 + 1))) else (escape_ParseInt.l0 k3 t211 t212 x6_8 (IntKind.u64.wrap ((IntKind.u64.wrap (x7_3 * 10)) + (((bt t211 x32_3) - 48) % 256))) (decide (x7_3 > (IntKind.u64.wrap (Int.tdiv (IntKind.u64.wrap (x6_8 - (((bt t211 x32_3) - 48) % 256))) 10)))) (t211.size : Int) (wrap64 (x32_3 + 1)))) = some (r1, r2) := by rw [if_neg (show ¬ (false = true) by decide)] at H; exact H
                          clear H
                          have H := H1
                          clear H1
                          by_cases c17 : (x7_3 > (IntKind.u64.wrap (Int.tdiv (IntKind.u64.wrap (x6_8 - (((bt t211 x32_3) - 48) % 256))) 10)))
                          · rw [if_pos c17] at H
                            have c17b0 : decide ((IntKind.u64.wrap (Int.tdiv (IntKind.u64.wrap (x6_8 - (((bt t211 x32_3) - 48) % 256))) 10)) < x7_3) = true := decide_eq_true c17
                            clear c17
                            have H' := Aside0.mk H
                            clear H
                            have p14 : 0 ≤ (x32_3 : Int) := of_decide_eq_true (by first | (with_reducible assumption) | assumption)
                            have q14 : x32_3 < (t211.size : Int) := of_decide_eq_true (by first | (with_reducible assumption) | assumption)
                            have hx14 := bt_at t211 x32_3
                            replace p14 := eq_true p14
                            replace q14 := eq_true q14
                            go_wp2
                            go_roundg k3
                            case measure => have := HJ2.out; have := HJ8.out; have := HK3.out; omega
                            case rel => exact ⟨(x7_3), (decide (x7_3 > (IntKind.u64.wrap (Int.tdiv (IntKind.u64.wrap (x6_8 - (((bt t211 x32_3) - 48) % 256))) 10)))), (wrap64 (x32_3 + 1)), (by first | rfl | (simp; done) | (simp [*]; done)), (by first | rfl | (simp; done) | (simp [*]; done)), (by first | rfl | (simp; done) | (simp [*]; done)), H', ⟨by have := HJ2.out; have := HJ8.out; have := HK3.out; omega⟩, by repeat (first | exact Drawn0.refl _ | apply Drawn0.step)⟩
                          · rw [if_neg c17] at H
                            have c17b0 : decide ((IntKind.u64.wrap (Int.tdiv (IntKind.u64.wrap (x6_8 - (((bt t211 x32_3) - 48) % 256))) 10)) < x7_3) = false := decide_eq_false c17
                            clear c17
                            have H' := Aside0.mk H
                            clear H
                            have p14 : 0 ≤ (x32_3 : Int) := of_decide_eq_true (by first | (with_reducible assumption) | assumption)
                            have q14 : x32_3 < (t211.size : Int) := of_decide_eq_true (by first | (with_reducible assumption) | assumption)
                            have hx14 := bt_at t211 x32_3
                            replace p14 := eq_true p14
                            replace q14 := eq_true q14
                            go_wp2
                            go_roundg k3
                            case measure => have := HJ2.out; have := HJ8.out; have := HK3.out; omega
                            case rel => exact ⟨(IntKind.u64.wrap ((IntKind.u64.wrap (x7_3 * 10)) + (((bt t211 x32_3) - 48) % 256))), (decide (x7_3 > (IntKind.u64.wrap (Int.tdiv (IntKind.u64.wrap (x6_8 - (((bt t211 x32_3) - 48) % 256))) 10)))), (wrap64 (x32_3 + 1)), (by first | rfl | (simp; done) | (simp [*]; done)), (by first | rfl | (simp; done) | (simp [*]; done)), (by first | rfl | (simp; done) | (simp [*]; done)), H', ⟨by have := HJ2.out; have := HJ8.out; have := HK3.out; omega⟩, by repeat (first | exact Drawn0.refl _ | apply Drawn0.step)⟩
                    · rw [if_neg c13] at H
                      exact absurd H (by simp)
                  · rw [if_neg c12] at H
                    exact absurd H (by simp)
                · rw [if_neg c11] at H
                  have c11b0 : decide (x32_3 < (t211.size : Int)) = false := decide_eq_false c11
                  clear c11
                  by_cases c18 : x8_3 = true
                  · subst c18
                    have H1 : (some (0, 2)) = some (r1, r2) := by rw [if_pos rfl] at H; exact H
                    clear H
                    have H := H1
                    clear H1
                    simp only [Option.some.injEq, Prod.mk.injEq] at H
                    obtain ⟨rfl, rfl⟩ := H
                    go_wp2
                    go_ret2
                    exact ⟨by first | rfl | (simp; done) | (simp [*]; done), by repeat (first | exact Drawn0.refl _ | apply Drawn0.step)⟩
                  · replace c18 := Bool.eq_false_iff.mpr c18
                    subst c18
                    have H1 : (if t212 = true then (some (wrap64 (IntKind.u64.wrap (-x7_3)), 0)) else (some (wrap64 (x7_3), 0))) = some (r1, r2) := by rw [if_neg (show ¬ (false = true) by decide)] at H; exact H
                    clear H
                    have H := H1
                    clear H1
                    by_cases c19 : t212 = true
                    · subst c19
                      have H1 : (some (wrap64 (IntKind.u64.wrap (-x7_3)), 0)) = some (r1, r2) := by rw [if_pos rfl] at H; exact H
                      clear H
                      have H := H1
                      clear H1
                      simp only [Option.some.injEq, Prod.mk.injEq] at H
                      obtain ⟨rfl, rfl⟩ := H
                      go_wp2
                      go_ret2
                      exact ⟨by first | rfl | (simp; done) | (simp [*]; done), by repeat (first | exact Drawn0.refl _ | apply Drawn0.step)⟩
                    · replace c19 := Bool.eq_false_iff.mpr c19
                      subst c19
                      have H1 : (some (wrap64 (x7_3), 0)) = some (r1, r2) := by rw [if_neg (show ¬ (false = true) by decide)] at H; exact H
                      clear H
                      have H := H1
                      clear H1
                      simp only [Option.some.injEq, Prod.mk.injEq] at H
                      obtain ⟨rfl, rfl⟩ := H
                      go_wp2
                      go_ret2
                      exact ⟨by first | rfl | (simp; done) | (simp [*]; done), by repeat (first | exact Drawn0.refl _ | apply Drawn0.step)⟩

end Go.Proofs.Ytmohadimhapacaa.S
