-- Written by a program of this session for this claim (it follows the print's forms). Not trusted: Lean checks it.
import Derived.Test.YtlonanlogdokfaaS0
import Derived.Test.YtlonanlogdokfaaS10
namespace Go.Proofs.Ytlonanlogdokfaa.S
open Go.RowKit Go.Proofs.YtlonanlogdokfaaW.PrintWords Go.Proofs.YtlonanlogdokfaaW.PrintLast Go.Proofs.YtlonanlogdokfaaW.PrintMore
attribute [local go_sem] max2_int min2_int max_two min_two max_three min_three max_four min_four   -- for this text's walks alone
set_option linter.unusedVariables false
set_option linter.unusedSimpArgs false

/-! ### noonmarkref14_year: function 25 -/
/-- f put into l at place i -/
def insE (l : List S47) (i : Int) (f : S47) : List S47 := l.take i.toNat ++ [f] ++ l.drop i.toNat
theorem reps_one47 (W : World) (base : Nat) (ok : Nat → Prop) (x : S47) : Reps (k47.M W base ok) k47.sz [x] [.int .i64 x.f0, .int .i64 x.f1, .int .i64 x.f2, .int .i64 x.f3] := by
  refine ⟨rfl, fun j p h => ?_⟩
  cases j with
  | zero =>
    have e : x = p := by simpa using h
    subst e
    exact k47_mkM W base ok x
  | succ j => simp at h
theorem take26 (A : Option Addr) (n c i : Nat) (hi : i ≤ n) (hc : n ≤ c) (W : World) : (Instr.slice 26 (.slice A n c) none (some (.int .i64 (i : Int))) none).run Try.prog W = .ok (.slice A i c) W := by
  obtain ⟨i0, hi0, _, hsz, _⟩ := info_parts info47
  have hel : Try.prog.elem 26 = 47 := by simp [Program.elem, Try.underlying26]
  have hu : Try.prog.underlying 26 = some (.slice (Try.prog.elem 26)) := by rw [hel]; exact Try.underlying26
  have ha : (A.map fun x => x.add 0) = A := by cases A <;> simp [Addr.add]
  rw [run_slice_h W 26 A n c hu .i64 (i : Int) (by omega) (by omega), hel]
  simp [sizeOf, typeInfo, hi0, hsz, sliced, Result.andThen, ha]
theorem drop26 (A : Option Addr) (n c i : Nat) (hi : i ≤ n) (hc : n ≤ c) (W : World) : (Instr.slice 26 (.slice A n c) (some (.int .i64 (i : Int))) none none).run Try.prog W = .ok (.slice (if c = i then A else A.map (·.add (i * 4))) (n - i) (c - i)) W := by
  obtain ⟨i0, hi0, _, hsz, _⟩ := info_parts info47
  have hel : Try.prog.elem 26 = 47 := by simp [Program.elem, Try.underlying26]
  have hu : Try.prog.underlying 26 = some (.slice (Try.prog.elem 26)) := by rw [hel]; exact Try.underlying26
  rw [run_slice_l W 26 A n c hu .i64 (i : Int) (by omega) (by omega), hel]
  simp [sizeOf, typeInfo, hi0, hsz, sliced, Result.andThen]
mutual
def noonmarkref14_year.l0 : Nat → List (S42) → Int → List (S47) → Int → Option ((List (S47)))
  | 0, _, _, _, _ => none
  | k + 1, x0, x1, x5, x6 => if x6 < (x0.length : Int) then (if 0 ≤ x6 then (if x1 < ((rd_T42 x0 x6).f1) then (noonmarkref14_year.j1 k x0 x1 x5 x6 true) else (if x1 > ((rd_T42 x0 x6).f2) then (noonmarkref14_year.j1 k x0 x1 x5 x6 true) else (if x1 < 1 then (noonmarkref14_year.j1 k x0 x1 x5 x6 true) else (noonmarkref14_year.j1 k x0 x1 x5 x6 (decide (x1 > 9999)))))) else (none)) else (some x5)
def noonmarkref14_year.j1 : Nat → List (S42) → Int → List (S47) → Int → Bool → Option ((List (S47)))
  | 0, _, _, _, _, _ => none
  | k + 1, x0, x1, x5, x6, x40 => if x40 = true then (noonmarkref14_year.l0 k x0 x1 x5 (wrap64 (x6 + 1))) else (if 0 ≤ x6 then (if x6 < (x0.length : Int) then ((noonmarkref06_Of.f k ((rd_T42 x0 x6).f4.f0) ((rd_T42 x0 x6).f4.f1) ((rd_T42 x0 x6).f4.f2) x1 ((rd_T42 x0 x6).f3)).bind fun bt201 => (if bt201.2 = 0 then (noonmarkref14_year.l1 k x0 x1 x5 x6 0 x6 x1 (wrap64 ((wrap64 (bt201.1 * 86400)) + ((rd_T42 x0 x6).f5.f0))) 0) else (noonmarkref14_year.l0 k x0 x1 x5 (wrap64 (x6 + 1))))) else (none)) else (none))
def noonmarkref14_year.l1 : Nat → List (S42) → Int → List (S47) → Int → Int → Int → Int → Int → Int → Option ((List (S47)))
  | 0, _, _, _, _, _, _, _, _, _ => none
  | k + 1, x0, x1, x5, x6, x10, x205000, x205001, x205002, x205003 => if x10 < (x5.length : Int) then (if 0 ≤ x10 then ((noonmarkref14_before.f ((rd_T47 x5 x10).f0) ((rd_T47 x5 x10).f1) ((rd_T47 x5 x10).f2) ((rd_T47 x5 x10).f3) x205000 x205001 x205002 x205003).bind fun t206 => (if t206 = true then (noonmarkref14_year.l1 k x0 x1 x5 x6 (wrap64 (x10 + 1)) x205000 x205001 x205002 x205003) else (if x5.length < 4398046511104 then (noonmarkref14_year.l0 k x0 x1 (insE x5 x10 (⟨x205000, x205001, x205002, x205003⟩ : S47)) (wrap64 (x6 + 1))) else (none)))) else (none)) else (if x10 = (x5.length : Int) then (if x5.length < 4398046511104 then (noonmarkref14_year.l0 k x0 x1 (insE x5 x10 (⟨x205000, x205001, x205002, x205003⟩ : S47)) (wrap64 (x6 + 1))) else (none)) else (none))
end
def noonmarkref14_year.f (k : Nat) (l0 : List (S42)) (a1 : Int) : Option ((List (S47))) := noonmarkref14_year.l0 k l0 a1 ([] : List (S47)) 0
def noonmarkref14_year.T6 : Bool × List (List Nat × List Nat) := (true, [([], []), ([], []), ([0, 1], [0, 1]), ([2], [2]), ([3], [3]), ([], []), ([], []), ([], []), ([6, 7], [6, 7]), ([8], [8]), ([9], [9]), ([4, 5, 10], [4, 5, 10]), ([11], [11]), ([12], [12]), ([12], [12]), ([13, 11, 0, 1, 2, 3, 4, 5, 6, 7, 8, 9, 10, 11, 12, 13], [13]), ([14, 15, 0, 1, 2, 3, 4, 5, 6, 7, 8, 9, 10, 11, 12, 13, 14, 15], [14])])
def noonmarkref14_year.B6 : List Nat := [0, 0, 3, 7, 15, 0, 0, 0, 192, 448, 960, 2047, 4095, 8191, 8191, 16383, 65535]
theorem noonmarkref14_year.tab6 : rtab .any (opsOf Try.f25 6) = noonmarkref14_year.T6 := by kernel_rfl
theorem noonmarkref14_year.bits6 : waitsOk noonmarkref14_year.T6.2 noonmarkref14_year.B6 = true := by kernel_rfl
def noonmarkref14_year.T10 : Bool × List (List Nat × List Nat) := (true, [([], []), ([], []), ([1], [1]), ([0, 2], [0, 2]), ([3], [3]), ([4], [4]), ([4], [4]), ([5, 6, 4], [4, 5, 6]), ([7, 4], [4, 7]), ([4], [4]), ([8, 9, 4, 4], [4, 8, 9]), ([4, 10], [4, 10])])
def noonmarkref14_year.B10 : List Nat := [0, 0, 2, 7, 15, 31, 31, 127, 255, 31, 1023, 2047]
theorem noonmarkref14_year.tab10 : rtab .any (opsOf Try.f25 10) = noonmarkref14_year.T10 := by kernel_rfl
theorem noonmarkref14_year.bits10 : waitsOk noonmarkref14_year.T10.2 noonmarkref14_year.B10 = true := by kernel_rfl
set_option maxHeartbeats 8000000 in
set_option maxRecDepth 100000 in
theorem noonmarkref14_year.calls (k : Nat) (A0 : Option Addr) (c0 : Nat) (l0 : List (S42)) (a1 : Int) (r : List (S47)) (w : World) (hr0 : Kd.C k42 w A0 l0.length l0) (hc0 : l0.length ≤ c0) (h : noonmarkref14_year.f k l0 a1 = some r) :
    Calls Try.prog 25 #[.slice A0 l0.length c0, .int .i64 a1] w fun e w' => ∃ v0_ : Value, e = .returned (v0_) ∧ Kd.R k47 47 w' w.heap.size (fun _ => True) v0_ r ∧ Below w.heap.size w w' := by
  have hu38 := Try.underlying38
  have hu47 := Try.underlying47
  have HR0 := Aside0.mk hr0
  have HC0 := Aside0.mk hc0
  clear hr0 hc0
  have HB := Aside0.mk (Below.refl w.heap.size w)
  have H : (noonmarkref14_year.l0 k l0 a1 ([] : List (S47)) 0) = some r := h
  clear h
  have H' := Aside0.mk H
  clear H
  go_enter Try.func25, Try.ntmps25
  go_wp2
  go_loopg [5, 6] k (fun kq v5 v6 w' => ∃ (x5_1 : List (S47)) (x6_1 : Int), v6 = .int .i64 x6_1 ∧ Aside0 (noonmarkref14_year.l0 kq l0 a1 x5_1 x6_1 = some r) ∧ Aside0 (kq ≤ k) ∧ Aside0 (Kd.R k47 47 w' w.heap.size (fun _ => True) v5 x5_1) ∧ Aside0 (Below w.heap.size w w'))
  case atStart => exact ⟨(([] : List (S47))), (0), (by first | rfl | (simp; done) | (simp [*]; done)), H', ⟨Nat.le_refl _⟩, ⟨by first | exact Kd.R_nil _ _ _ _ _ | exact Kd.N_nil _ _ _ _ _ | exact Kd.V_nil _ _ _ _ _ | exact Kd.Q_nil _ _ _ _ _ | exact Kd.S_nil _ _ _ _ _⟩, ⟨by repeat (first | (with_reducible first | exact HB.out | apply below_alloc | apply pw_below_drewN | apply below_drew1) | exact HB.out)⟩⟩
  case round =>
    clear H'
    try clear c2
    try clear p2
    obtain ⟨x5_1, x6_1, rfl, HA, HK1, HO_5, HB⟩ := hrel
    cases gk with
    | zero => exact absurd HA.out (by simp [noonmarkref14_year.l0])
    | succ k1 =>
      have H := HA.out
      clear HA
      simp only [noonmarkref14_year.l0] at H
      by_cases c3 : x6_1 < (l0.length : Int)
      · rw [if_pos c3] at H
        have c3b0 : decide (x6_1 < (l0.length : Int)) = true := decide_eq_true c3
        clear c3
        have HC4 := Aside0.mk H
        clear H
        go_upto_region 5 with (fail)
        go_cut [40] (fun v40 wc => ∃ (kq : Nat) (x40_3 : Bool), v40 = .bool x40_3 ∧ Aside0 (noonmarkref14_year.j1 kq l0 a1 x5_1 x6_1 x40_3 = some r) ∧ Aside0 (kq ≤ k1) ∧ Aside0 (Kd.R k47 47 wc w.heap.size (fun _ => True) u5 x5_1) ∧ Aside0 (Below w.heap.size w wc))
        case first =>
          have H := HC4.out
          clear HC4
          by_cases c5 : 0 ≤ x6_1
          · rw [if_pos c5] at H
            have c5b0 : decide (0 ≤ x6_1) = true := decide_eq_true c5
            clear c5
            (first | rw [c5b0] | (simp only [i64_w, i32_w]; rw [c5b0]) | skip)
            by_cases c6 : a1 < ((rd_T42 l0 x6_1).f1)
            · rw [if_pos c6] at H
              have c6b0 : decide (a1 < ((rd_T42 l0 x6_1).f1)) = true := decide_eq_true c6
              clear c6
              have H' := Aside0.mk H
              clear H
              have p197 : 0 ≤ (x6_1 : Int) := of_decide_eq_true (by first | (with_reducible assumption) | assumption)
              have q197 : x6_1 < (l0.length : Int) := of_decide_eq_true (by first | (with_reducible assumption) | assumption)
              obtain ⟨ad197, e197, hx197_0, hx197_1, hx197_2, hx197_3, hx197_4, hx197_5, hx197_6, hx197_7, hx197_8, hx197_9, hx197_10⟩ := at_T42 HR0.out x6_1 p197 q197
              cases e197
              replace hx197_0 := (HB.out.cell (World.block_lt_of_cell? w _ hx197_0)).trans hx197_0
              replace hx197_1 := (HB.out.cell (World.block_lt_of_cell? w _ hx197_1)).trans hx197_1
              replace hx197_2 := (HB.out.cell (World.block_lt_of_cell? w _ hx197_2)).trans hx197_2
              replace hx197_3 := (HB.out.cell (World.block_lt_of_cell? w _ hx197_3)).trans hx197_3
              replace hx197_4 := (HB.out.cell (World.block_lt_of_cell? w _ hx197_4)).trans hx197_4
              replace hx197_5 := (HB.out.cell (World.block_lt_of_cell? w _ hx197_5)).trans hx197_5
              replace hx197_6 := (HB.out.cell (World.block_lt_of_cell? w _ hx197_6)).trans hx197_6
              replace hx197_7 := (HB.out.cell (World.block_lt_of_cell? w _ hx197_7)).trans hx197_7
              replace hx197_8 := (HB.out.cell (World.block_lt_of_cell? w _ hx197_8)).trans hx197_8
              replace hx197_9 := (HB.out.cell (World.block_lt_of_cell? w _ hx197_9)).trans hx197_9
              replace hx197_10 := (HB.out.cell (World.block_lt_of_cell? w _ hx197_10)).trans hx197_10
              replace p197 := eq_true p197
              replace q197 := eq_true q197
              go_wp2
              go_meet
              case rel => exact ⟨_, (true), (by first | rfl | (simp; done) | (simp [*]; done)), H', ⟨by have := HK1.out; first | omega | exact Nat.le_refl _⟩, ⟨by (with_reducible repeat (first | apply Kd.R_alloc | apply Kd.R_drewN | apply Kd.R_drew)); exact HO_5.out⟩, ⟨by repeat (first | (with_reducible first | exact HB.out | apply below_alloc | apply pw_below_drewN | apply below_drew1) | exact HB.out)⟩⟩
            · rw [if_neg c6] at H
              have c6b0 : decide (a1 < ((rd_T42 l0 x6_1).f1)) = false := decide_eq_false c6
              clear c6
              by_cases c7 : a1 > ((rd_T42 l0 x6_1).f2)
              · rw [if_pos c7] at H
                have c7b0 : decide (((rd_T42 l0 x6_1).f2) < a1) = true := decide_eq_true c7
                clear c7
                have H' := Aside0.mk H
                clear H
                have p197 : 0 ≤ (x6_1 : Int) := of_decide_eq_true (by first | (with_reducible assumption) | assumption)
                have q197 : x6_1 < (l0.length : Int) := of_decide_eq_true (by first | (with_reducible assumption) | assumption)
                obtain ⟨ad197, e197, hx197_0, hx197_1, hx197_2, hx197_3, hx197_4, hx197_5, hx197_6, hx197_7, hx197_8, hx197_9, hx197_10⟩ := at_T42 HR0.out x6_1 p197 q197
                cases e197
                replace hx197_0 := (HB.out.cell (World.block_lt_of_cell? w _ hx197_0)).trans hx197_0
                replace hx197_1 := (HB.out.cell (World.block_lt_of_cell? w _ hx197_1)).trans hx197_1
                replace hx197_2 := (HB.out.cell (World.block_lt_of_cell? w _ hx197_2)).trans hx197_2
                replace hx197_3 := (HB.out.cell (World.block_lt_of_cell? w _ hx197_3)).trans hx197_3
                replace hx197_4 := (HB.out.cell (World.block_lt_of_cell? w _ hx197_4)).trans hx197_4
                replace hx197_5 := (HB.out.cell (World.block_lt_of_cell? w _ hx197_5)).trans hx197_5
                replace hx197_6 := (HB.out.cell (World.block_lt_of_cell? w _ hx197_6)).trans hx197_6
                replace hx197_7 := (HB.out.cell (World.block_lt_of_cell? w _ hx197_7)).trans hx197_7
                replace hx197_8 := (HB.out.cell (World.block_lt_of_cell? w _ hx197_8)).trans hx197_8
                replace hx197_9 := (HB.out.cell (World.block_lt_of_cell? w _ hx197_9)).trans hx197_9
                replace hx197_10 := (HB.out.cell (World.block_lt_of_cell? w _ hx197_10)).trans hx197_10
                replace p197 := eq_true p197
                replace q197 := eq_true q197
                have p198 : 0 ≤ (x6_1 : Int) := of_decide_eq_true (by first | (with_reducible assumption) | assumption)
                have q198 : x6_1 < (l0.length : Int) := of_decide_eq_true (by first | (with_reducible assumption) | assumption)
                obtain ⟨ad198, e198, hx198_0, hx198_1, hx198_2, hx198_3, hx198_4, hx198_5, hx198_6, hx198_7, hx198_8, hx198_9, hx198_10⟩ := at_T42 HR0.out x6_1 p198 q198
                obtain rfl : ad197 = ad198 := (by injection e198)
                replace hx198_0 := (HB.out.cell (World.block_lt_of_cell? w _ hx198_0)).trans hx198_0
                replace hx198_1 := (HB.out.cell (World.block_lt_of_cell? w _ hx198_1)).trans hx198_1
                replace hx198_2 := (HB.out.cell (World.block_lt_of_cell? w _ hx198_2)).trans hx198_2
                replace hx198_3 := (HB.out.cell (World.block_lt_of_cell? w _ hx198_3)).trans hx198_3
                replace hx198_4 := (HB.out.cell (World.block_lt_of_cell? w _ hx198_4)).trans hx198_4
                replace hx198_5 := (HB.out.cell (World.block_lt_of_cell? w _ hx198_5)).trans hx198_5
                replace hx198_6 := (HB.out.cell (World.block_lt_of_cell? w _ hx198_6)).trans hx198_6
                replace hx198_7 := (HB.out.cell (World.block_lt_of_cell? w _ hx198_7)).trans hx198_7
                replace hx198_8 := (HB.out.cell (World.block_lt_of_cell? w _ hx198_8)).trans hx198_8
                replace hx198_9 := (HB.out.cell (World.block_lt_of_cell? w _ hx198_9)).trans hx198_9
                replace hx198_10 := (HB.out.cell (World.block_lt_of_cell? w _ hx198_10)).trans hx198_10
                replace p198 := eq_true p198
                replace q198 := eq_true q198
                go_wp2
                go_meet
                case rel => exact ⟨_, (true), (by first | rfl | (simp; done) | (simp [*]; done)), H', ⟨by have := HK1.out; first | omega | exact Nat.le_refl _⟩, ⟨by (with_reducible repeat (first | apply Kd.R_alloc | apply Kd.R_drewN | apply Kd.R_drew)); exact HO_5.out⟩, ⟨by repeat (first | (with_reducible first | exact HB.out | apply below_alloc | apply pw_below_drewN | apply below_drew1) | exact HB.out)⟩⟩
              · rw [if_neg c7] at H
                have c7b0 : decide (((rd_T42 l0 x6_1).f2) < a1) = false := decide_eq_false c7
                clear c7
                by_cases c8 : a1 < 1
                · rw [if_pos c8] at H
                  have c8b0 : decide (a1 < 1) = true := decide_eq_true c8
                  clear c8
                  have H' := Aside0.mk H
                  clear H
                  have p197 : 0 ≤ (x6_1 : Int) := of_decide_eq_true (by first | (with_reducible assumption) | assumption)
                  have q197 : x6_1 < (l0.length : Int) := of_decide_eq_true (by first | (with_reducible assumption) | assumption)
                  obtain ⟨ad197, e197, hx197_0, hx197_1, hx197_2, hx197_3, hx197_4, hx197_5, hx197_6, hx197_7, hx197_8, hx197_9, hx197_10⟩ := at_T42 HR0.out x6_1 p197 q197
                  cases e197
                  replace hx197_0 := (HB.out.cell (World.block_lt_of_cell? w _ hx197_0)).trans hx197_0
                  replace hx197_1 := (HB.out.cell (World.block_lt_of_cell? w _ hx197_1)).trans hx197_1
                  replace hx197_2 := (HB.out.cell (World.block_lt_of_cell? w _ hx197_2)).trans hx197_2
                  replace hx197_3 := (HB.out.cell (World.block_lt_of_cell? w _ hx197_3)).trans hx197_3
                  replace hx197_4 := (HB.out.cell (World.block_lt_of_cell? w _ hx197_4)).trans hx197_4
                  replace hx197_5 := (HB.out.cell (World.block_lt_of_cell? w _ hx197_5)).trans hx197_5
                  replace hx197_6 := (HB.out.cell (World.block_lt_of_cell? w _ hx197_6)).trans hx197_6
                  replace hx197_7 := (HB.out.cell (World.block_lt_of_cell? w _ hx197_7)).trans hx197_7
                  replace hx197_8 := (HB.out.cell (World.block_lt_of_cell? w _ hx197_8)).trans hx197_8
                  replace hx197_9 := (HB.out.cell (World.block_lt_of_cell? w _ hx197_9)).trans hx197_9
                  replace hx197_10 := (HB.out.cell (World.block_lt_of_cell? w _ hx197_10)).trans hx197_10
                  replace p197 := eq_true p197
                  replace q197 := eq_true q197
                  have p198 : 0 ≤ (x6_1 : Int) := of_decide_eq_true (by first | (with_reducible assumption) | assumption)
                  have q198 : x6_1 < (l0.length : Int) := of_decide_eq_true (by first | (with_reducible assumption) | assumption)
                  obtain ⟨ad198, e198, hx198_0, hx198_1, hx198_2, hx198_3, hx198_4, hx198_5, hx198_6, hx198_7, hx198_8, hx198_9, hx198_10⟩ := at_T42 HR0.out x6_1 p198 q198
                  obtain rfl : ad197 = ad198 := (by injection e198)
                  replace hx198_0 := (HB.out.cell (World.block_lt_of_cell? w _ hx198_0)).trans hx198_0
                  replace hx198_1 := (HB.out.cell (World.block_lt_of_cell? w _ hx198_1)).trans hx198_1
                  replace hx198_2 := (HB.out.cell (World.block_lt_of_cell? w _ hx198_2)).trans hx198_2
                  replace hx198_3 := (HB.out.cell (World.block_lt_of_cell? w _ hx198_3)).trans hx198_3
                  replace hx198_4 := (HB.out.cell (World.block_lt_of_cell? w _ hx198_4)).trans hx198_4
                  replace hx198_5 := (HB.out.cell (World.block_lt_of_cell? w _ hx198_5)).trans hx198_5
                  replace hx198_6 := (HB.out.cell (World.block_lt_of_cell? w _ hx198_6)).trans hx198_6
                  replace hx198_7 := (HB.out.cell (World.block_lt_of_cell? w _ hx198_7)).trans hx198_7
                  replace hx198_8 := (HB.out.cell (World.block_lt_of_cell? w _ hx198_8)).trans hx198_8
                  replace hx198_9 := (HB.out.cell (World.block_lt_of_cell? w _ hx198_9)).trans hx198_9
                  replace hx198_10 := (HB.out.cell (World.block_lt_of_cell? w _ hx198_10)).trans hx198_10
                  replace p198 := eq_true p198
                  replace q198 := eq_true q198
                  go_wp2
                  go_meet
                  case rel => exact ⟨_, (true), (by first | rfl | (simp; done) | (simp [*]; done)), H', ⟨by have := HK1.out; first | omega | exact Nat.le_refl _⟩, ⟨by (with_reducible repeat (first | apply Kd.R_alloc | apply Kd.R_drewN | apply Kd.R_drew)); exact HO_5.out⟩, ⟨by repeat (first | (with_reducible first | exact HB.out | apply below_alloc | apply pw_below_drewN | apply below_drew1) | exact HB.out)⟩⟩
                · rw [if_neg c8] at H
                  have c8b0 : decide (a1 < 1) = false := decide_eq_false c8
                  clear c8
                  have H' := Aside0.mk H
                  clear H
                  have p197 : 0 ≤ (x6_1 : Int) := of_decide_eq_true (by first | (with_reducible assumption) | assumption)
                  have q197 : x6_1 < (l0.length : Int) := of_decide_eq_true (by first | (with_reducible assumption) | assumption)
                  obtain ⟨ad197, e197, hx197_0, hx197_1, hx197_2, hx197_3, hx197_4, hx197_5, hx197_6, hx197_7, hx197_8, hx197_9, hx197_10⟩ := at_T42 HR0.out x6_1 p197 q197
                  cases e197
                  replace hx197_0 := (HB.out.cell (World.block_lt_of_cell? w _ hx197_0)).trans hx197_0
                  replace hx197_1 := (HB.out.cell (World.block_lt_of_cell? w _ hx197_1)).trans hx197_1
                  replace hx197_2 := (HB.out.cell (World.block_lt_of_cell? w _ hx197_2)).trans hx197_2
                  replace hx197_3 := (HB.out.cell (World.block_lt_of_cell? w _ hx197_3)).trans hx197_3
                  replace hx197_4 := (HB.out.cell (World.block_lt_of_cell? w _ hx197_4)).trans hx197_4
                  replace hx197_5 := (HB.out.cell (World.block_lt_of_cell? w _ hx197_5)).trans hx197_5
                  replace hx197_6 := (HB.out.cell (World.block_lt_of_cell? w _ hx197_6)).trans hx197_6
                  replace hx197_7 := (HB.out.cell (World.block_lt_of_cell? w _ hx197_7)).trans hx197_7
                  replace hx197_8 := (HB.out.cell (World.block_lt_of_cell? w _ hx197_8)).trans hx197_8
                  replace hx197_9 := (HB.out.cell (World.block_lt_of_cell? w _ hx197_9)).trans hx197_9
                  replace hx197_10 := (HB.out.cell (World.block_lt_of_cell? w _ hx197_10)).trans hx197_10
                  replace p197 := eq_true p197
                  replace q197 := eq_true q197
                  have p198 : 0 ≤ (x6_1 : Int) := of_decide_eq_true (by first | (with_reducible assumption) | assumption)
                  have q198 : x6_1 < (l0.length : Int) := of_decide_eq_true (by first | (with_reducible assumption) | assumption)
                  obtain ⟨ad198, e198, hx198_0, hx198_1, hx198_2, hx198_3, hx198_4, hx198_5, hx198_6, hx198_7, hx198_8, hx198_9, hx198_10⟩ := at_T42 HR0.out x6_1 p198 q198
                  obtain rfl : ad197 = ad198 := (by injection e198)
                  replace hx198_0 := (HB.out.cell (World.block_lt_of_cell? w _ hx198_0)).trans hx198_0
                  replace hx198_1 := (HB.out.cell (World.block_lt_of_cell? w _ hx198_1)).trans hx198_1
                  replace hx198_2 := (HB.out.cell (World.block_lt_of_cell? w _ hx198_2)).trans hx198_2
                  replace hx198_3 := (HB.out.cell (World.block_lt_of_cell? w _ hx198_3)).trans hx198_3
                  replace hx198_4 := (HB.out.cell (World.block_lt_of_cell? w _ hx198_4)).trans hx198_4
                  replace hx198_5 := (HB.out.cell (World.block_lt_of_cell? w _ hx198_5)).trans hx198_5
                  replace hx198_6 := (HB.out.cell (World.block_lt_of_cell? w _ hx198_6)).trans hx198_6
                  replace hx198_7 := (HB.out.cell (World.block_lt_of_cell? w _ hx198_7)).trans hx198_7
                  replace hx198_8 := (HB.out.cell (World.block_lt_of_cell? w _ hx198_8)).trans hx198_8
                  replace hx198_9 := (HB.out.cell (World.block_lt_of_cell? w _ hx198_9)).trans hx198_9
                  replace hx198_10 := (HB.out.cell (World.block_lt_of_cell? w _ hx198_10)).trans hx198_10
                  replace p198 := eq_true p198
                  replace q198 := eq_true q198
                  go_wp2
                  go_meet
                  case rel => exact ⟨_, (decide (a1 > 9999)), (by first | rfl | (simp; done) | (simp [*]; done)), H', ⟨by have := HK1.out; first | omega | exact Nat.le_refl _⟩, ⟨by (with_reducible repeat (first | apply Kd.R_alloc | apply Kd.R_drewN | apply Kd.R_drew)); exact HO_5.out⟩, ⟨by repeat (first | (with_reducible first | exact HB.out | apply below_alloc | apply pw_below_drewN | apply below_drew1) | exact HB.out)⟩⟩
          · rw [if_neg c5] at H
            exact absurd H (by simp)
        case rest =>
          clear HC4
          try clear p1
          try clear q1
          try clear hx1
          try clear c2
          try clear p2
          try clear c3
          try clear c3b0
          try clear c5
          try clear c5b0
          try clear c6
          try clear c6b0
          try clear c7
          try clear c7b0
          try clear c8
          try clear c8b0
          try clear hx197_0
          try clear hx197_1
          try clear hx197_10
          try clear hx197_2
          try clear hx197_3
          try clear hx197_4
          try clear hx197_5
          try clear hx197_6
          try clear hx197_7
          try clear hx197_8
          try clear hx197_9
          try clear hx198_0
          try clear hx198_1
          try clear hx198_10
          try clear hx198_2
          try clear hx198_3
          try clear hx198_4
          try clear hx198_5
          try clear hx198_6
          try clear hx198_7
          try clear hx198_8
          try clear hx198_9
          try clear p197
          try clear p198
          try clear p2
          try clear q197
          try clear q198
          obtain ⟨kq, x40_3, rfl, HA, HJ3, HO_5, HB⟩ := hcut
          cases kq with
          | zero => exact absurd HA.out (by simp [noonmarkref14_year.j1])
          | succ kj3 =>
            have H := HA.out
            clear HA
            simp only [noonmarkref14_year.j1] at H
            by_cases c9 : x40_3 = true
            · subst c9
              have H1 : (noonmarkref14_year.l0 kj3 l0 a1 x5_1 (wrap64 (x6_1 + 1))) = some r := by rw [if_pos rfl] at H; exact H
              clear H
              have H := H1
              clear H1
              have H' := Aside0.mk H
              clear H
              go_wp2
              go_roundg kj3
              case measure => have := HK1.out; have := HJ3.out; omega
              case rel => exact ⟨(x5_1), (wrap64 (x6_1 + 1)), (by first | rfl | (simp; done) | (simp [*]; done)), H', ⟨by have := HK1.out; have := HJ3.out; omega⟩, ⟨by (with_reducible repeat (first | apply Kd.R_alloc | apply Kd.R_drewN | apply Kd.R_drew)); exact HO_5.out⟩, ⟨by repeat (first | (with_reducible first | exact HB.out | apply below_alloc | apply pw_below_drewN | apply below_drew1) | exact HB.out)⟩⟩
            · replace c9 := Bool.eq_false_iff.mpr c9
              subst c9
              have H1 : (if 0 ≤ x6_1 then (if x6_1 < (l0.length : Int) then ((noonmarkref06_Of.f kj3 ((rd_T42 l0 x6_1).f4.f0) ((rd_T42 l0 x6_1).f4.f1) ((rd_T42 l0 x6_1).f4.f2) a1 ((rd_T42 l0 x6_1).f3)).bind fun bt201 => (if bt201.2 = 0 then (noonmarkref14_year.l1 kj3 l0 a1 x5_1 x6_1 0 x6_1 a1 (wrap64 ((wrap64 (bt201.1 * 86400)) + ((rd_T42 l0 x6_1).f5.f0))) 0) else (noonmarkref14_year.l0 kj3 l0 a1 x5_1 (wrap64 (x6_1 + 1))))) else (none)) else (none)) = some r := by rw [if_neg (show ¬ (false = true) by decide)] at H; exact H
              clear H
              have H := H1
              clear H1
              by_cases c10 : 0 ≤ x6_1
              · rw [if_pos c10] at H
                have c10b0 : decide (0 ≤ x6_1) = true := decide_eq_true c10
                clear c10
                by_cases c11 : x6_1 < (l0.length : Int)
                · rw [if_pos c11] at H
                  have c11b0 : decide (x6_1 < (l0.length : Int)) = true := decide_eq_true c11
                  clear c11
                  replace H := Option.bind_eq_some_iff.mp H
                  obtain ⟨⟨t201, t202⟩, A120, H⟩ := H
                  replace H : (if t202 = 0 then (noonmarkref14_year.l1 kj3 l0 a1 x5_1 x6_1 0 x6_1 a1 (wrap64 ((wrap64 (t201 * 86400)) + ((rd_T42 l0 x6_1).f5.f0))) 0) else (noonmarkref14_year.l0 kj3 l0 a1 x5_1 (wrap64 (x6_1 + 1)))) = some r := H
                  have A12 := Aside0.mk A120
                  clear A120
                  by_cases c13 : t202 = 0
                  · rw [if_pos c13] at H
                    have c13b0 : (t202 == 0) = true := beq_iff_eq.mpr c13
                    have c13b1 : (t202 != 0) = false := bne_eq_false_iff_eq.mpr c13
                    clear c13
                    have H' := Aside0.mk H
                    clear H
                    try go_wp2
                    have n0_ := Aside0.mk (Kd.R_drew HO_5.out)
                    have n1_ := Aside0.mk (below_drew1 HB.out)
                    clear HO_5
                    clear HB
                    have HO_5 := n0_
                    have HB := n1_
                    clear n0_ n1_
                    have p199 : 0 ≤ (x6_1 : Int) := of_decide_eq_true (by first | (with_reducible assumption) | assumption)
                    have q199 : x6_1 < (l0.length : Int) := of_decide_eq_true (by first | (with_reducible assumption) | assumption)
                    obtain ⟨ad199, e199, hx199_0, hx199_1, hx199_2, hx199_3, hx199_4, hx199_5, hx199_6, hx199_7, hx199_8, hx199_9, hx199_10⟩ := at_T42 HR0.out x6_1 p199 q199
                    have hw199_10 := hx199_10
                    have hw199_9 := hx199_9
                    have hw199_8 := hx199_8
                    have hw199_7 := hx199_7
                    have hw199_6 := hx199_6
                    have hw199_5 := hx199_5
                    have hw199_4 := hx199_4
                    have hw199_3 := hx199_3
                    have hw199_2 := hx199_2
                    have hw199_1 := hx199_1
                    have hw199_0 := hx199_0
                    cases e199
                    replace hx199_0 := (HB.out.cell (World.block_lt_of_cell? w _ hx199_0)).trans hx199_0
                    replace hx199_1 := (HB.out.cell (World.block_lt_of_cell? w _ hx199_1)).trans hx199_1
                    replace hx199_2 := (HB.out.cell (World.block_lt_of_cell? w _ hx199_2)).trans hx199_2
                    replace hx199_3 := (HB.out.cell (World.block_lt_of_cell? w _ hx199_3)).trans hx199_3
                    replace hx199_4 := (HB.out.cell (World.block_lt_of_cell? w _ hx199_4)).trans hx199_4
                    replace hx199_5 := (HB.out.cell (World.block_lt_of_cell? w _ hx199_5)).trans hx199_5
                    replace hx199_6 := (HB.out.cell (World.block_lt_of_cell? w _ hx199_6)).trans hx199_6
                    replace hx199_7 := (HB.out.cell (World.block_lt_of_cell? w _ hx199_7)).trans hx199_7
                    replace hx199_8 := (HB.out.cell (World.block_lt_of_cell? w _ hx199_8)).trans hx199_8
                    replace hx199_9 := (HB.out.cell (World.block_lt_of_cell? w _ hx199_9)).trans hx199_9
                    replace hx199_10 := (HB.out.cell (World.block_lt_of_cell? w _ hx199_10)).trans hx199_10
                    replace p199 := eq_true p199
                    replace q199 := eq_true q199
                    have p200 : 0 ≤ (x6_1 : Int) := of_decide_eq_true (by first | (with_reducible assumption) | assumption)
                    have q200 : x6_1 < (l0.length : Int) := of_decide_eq_true (by first | (with_reducible assumption) | assumption)
                    obtain ⟨ad200, e200, hx200_0, hx200_1, hx200_2, hx200_3, hx200_4, hx200_5, hx200_6, hx200_7, hx200_8, hx200_9, hx200_10⟩ := at_T42 HR0.out x6_1 p200 q200
                    have hw200_10 := hx200_10
                    have hw200_9 := hx200_9
                    have hw200_8 := hx200_8
                    have hw200_7 := hx200_7
                    have hw200_6 := hx200_6
                    have hw200_5 := hx200_5
                    have hw200_4 := hx200_4
                    have hw200_3 := hx200_3
                    have hw200_2 := hx200_2
                    have hw200_1 := hx200_1
                    have hw200_0 := hx200_0
                    obtain rfl : ad199 = ad200 := (by injection e200)
                    replace hx200_0 := (HB.out.cell (World.block_lt_of_cell? w _ hx200_0)).trans hx200_0
                    replace hx200_1 := (HB.out.cell (World.block_lt_of_cell? w _ hx200_1)).trans hx200_1
                    replace hx200_2 := (HB.out.cell (World.block_lt_of_cell? w _ hx200_2)).trans hx200_2
                    replace hx200_3 := (HB.out.cell (World.block_lt_of_cell? w _ hx200_3)).trans hx200_3
                    replace hx200_4 := (HB.out.cell (World.block_lt_of_cell? w _ hx200_4)).trans hx200_4
                    replace hx200_5 := (HB.out.cell (World.block_lt_of_cell? w _ hx200_5)).trans hx200_5
                    replace hx200_6 := (HB.out.cell (World.block_lt_of_cell? w _ hx200_6)).trans hx200_6
                    replace hx200_7 := (HB.out.cell (World.block_lt_of_cell? w _ hx200_7)).trans hx200_7
                    replace hx200_8 := (HB.out.cell (World.block_lt_of_cell? w _ hx200_8)).trans hx200_8
                    replace hx200_9 := (HB.out.cell (World.block_lt_of_cell? w _ hx200_9)).trans hx200_9
                    replace hx200_10 := (HB.out.cell (World.block_lt_of_cell? w _ hx200_10)).trans hx200_10
                    replace p200 := eq_true p200
                    replace q200 := eq_true q200
                    refine start_ (n := 17) (S := fun w' => w'.cell? (ad199.add ((x6_1).toNat * 11)) = some (.string ((rd_T42 l0 x6_1).f0)) ∧ w'.cell? ⟨(ad199.add ((x6_1).toNat * 11)).block, (ad199.add ((x6_1).toNat * 11)).off + 1, none⟩ = some (.int .i64 ((rd_T42 l0 x6_1).f1)) ∧ w'.cell? ⟨(ad199.add ((x6_1).toNat * 11)).block, (ad199.add ((x6_1).toNat * 11)).off + 2, none⟩ = some (.int .i64 ((rd_T42 l0 x6_1).f2)) ∧ w'.cell? ⟨(ad199.add ((x6_1).toNat * 11)).block, (ad199.add ((x6_1).toNat * 11)).off + 3, none⟩ = some (.int .i64 ((rd_T42 l0 x6_1).f3)) ∧ w'.cell? ⟨(ad199.add ((x6_1).toNat * 11)).block, (ad199.add ((x6_1).toNat * 11)).off + 4, none⟩ = some (.int .i64 ((rd_T42 l0 x6_1).f4.f0)) ∧ w'.cell? ⟨(ad199.add ((x6_1).toNat * 11)).block, (ad199.add ((x6_1).toNat * 11)).off + 5, none⟩ = some (.int .i64 ((rd_T42 l0 x6_1).f4.f1)) ∧ w'.cell? ⟨(ad199.add ((x6_1).toNat * 11)).block, (ad199.add ((x6_1).toNat * 11)).off + 6, none⟩ = some (.int .i64 ((rd_T42 l0 x6_1).f4.f2)) ∧ w'.cell? ⟨(ad199.add ((x6_1).toNat * 11)).block, (ad199.add ((x6_1).toNat * 11)).off + 7, none⟩ = some (.int .i64 ((rd_T42 l0 x6_1).f5.f0)) ∧ w'.cell? ⟨(ad199.add ((x6_1).toNat * 11)).block, (ad199.add ((x6_1).toNat * 11)).off + 8, none⟩ = some (.int .i64 ((rd_T42 l0 x6_1).f5.f1)) ∧ w'.cell? ⟨(ad199.add ((x6_1).toNat * 11)).block, (ad199.add ((x6_1).toNat * 11)).off + 9, none⟩ = some (.int .i64 ((rd_T42 l0 x6_1).f6)) ∧ w'.cell? ⟨(ad199.add ((x6_1).toNat * 11)).block, (ad199.add ((x6_1).toNat * 11)).off + 10, none⟩ = some (.string ((rd_T42 l0 x6_1).f7)) ∧ w'.cell? (ad199.add ((x6_1).toNat * 11)) = some (.string ((rd_T42 l0 x6_1).f0)) ∧ w'.cell? ⟨(ad199.add ((x6_1).toNat * 11)).block, (ad199.add ((x6_1).toNat * 11)).off + 1, none⟩ = some (.int .i64 ((rd_T42 l0 x6_1).f1)) ∧ w'.cell? ⟨(ad199.add ((x6_1).toNat * 11)).block, (ad199.add ((x6_1).toNat * 11)).off + 2, none⟩ = some (.int .i64 ((rd_T42 l0 x6_1).f2)) ∧ w'.cell? ⟨(ad199.add ((x6_1).toNat * 11)).block, (ad199.add ((x6_1).toNat * 11)).off + 3, none⟩ = some (.int .i64 ((rd_T42 l0 x6_1).f3)) ∧ w'.cell? ⟨(ad199.add ((x6_1).toNat * 11)).block, (ad199.add ((x6_1).toNat * 11)).off + 4, none⟩ = some (.int .i64 ((rd_T42 l0 x6_1).f4.f0)) ∧ w'.cell? ⟨(ad199.add ((x6_1).toNat * 11)).block, (ad199.add ((x6_1).toNat * 11)).off + 5, none⟩ = some (.int .i64 ((rd_T42 l0 x6_1).f4.f1)) ∧ w'.cell? ⟨(ad199.add ((x6_1).toNat * 11)).block, (ad199.add ((x6_1).toNat * 11)).off + 6, none⟩ = some (.int .i64 ((rd_T42 l0 x6_1).f4.f2)) ∧ w'.cell? ⟨(ad199.add ((x6_1).toNat * 11)).block, (ad199.add ((x6_1).toNat * 11)).off + 7, none⟩ = some (.int .i64 ((rd_T42 l0 x6_1).f5.f0)) ∧ w'.cell? ⟨(ad199.add ((x6_1).toNat * 11)).block, (ad199.add ((x6_1).toNat * 11)).off + 8, none⟩ = some (.int .i64 ((rd_T42 l0 x6_1).f5.f1)) ∧ w'.cell? ⟨(ad199.add ((x6_1).toNat * 11)).block, (ad199.add ((x6_1).toNat * 11)).off + 9, none⟩ = some (.int .i64 ((rd_T42 l0 x6_1).f6)) ∧ w'.cell? ⟨(ad199.add ((x6_1).toNat * 11)).block, (ad199.add ((x6_1).toNat * 11)).off + 10, none⟩ = some (.string ((rd_T42 l0 x6_1).f7))) (ds := []) #[false, false, false, false, false, false, false, false, false, false, false, false, false, false, false, false, false] (by kernel_rfl) rfl rfl ⟨((HB.out.cell (World.block_lt_of_cell? w _ hw199_0)).trans hw199_0), ((HB.out.cell (World.block_lt_of_cell? w _ hw199_1)).trans hw199_1), ((HB.out.cell (World.block_lt_of_cell? w _ hw199_2)).trans hw199_2), ((HB.out.cell (World.block_lt_of_cell? w _ hw199_3)).trans hw199_3), ((HB.out.cell (World.block_lt_of_cell? w _ hw199_4)).trans hw199_4), ((HB.out.cell (World.block_lt_of_cell? w _ hw199_5)).trans hw199_5), ((HB.out.cell (World.block_lt_of_cell? w _ hw199_6)).trans hw199_6), ((HB.out.cell (World.block_lt_of_cell? w _ hw199_7)).trans hw199_7), ((HB.out.cell (World.block_lt_of_cell? w _ hw199_8)).trans hw199_8), ((HB.out.cell (World.block_lt_of_cell? w _ hw199_9)).trans hw199_9), ((HB.out.cell (World.block_lt_of_cell? w _ hw199_10)).trans hw199_10), ((HB.out.cell (World.block_lt_of_cell? w _ hw200_0)).trans hw200_0), ((HB.out.cell (World.block_lt_of_cell? w _ hw200_1)).trans hw200_1), ((HB.out.cell (World.block_lt_of_cell? w _ hw200_2)).trans hw200_2), ((HB.out.cell (World.block_lt_of_cell? w _ hw200_3)).trans hw200_3), ((HB.out.cell (World.block_lt_of_cell? w _ hw200_4)).trans hw200_4), ((HB.out.cell (World.block_lt_of_cell? w _ hw200_5)).trans hw200_5), ((HB.out.cell (World.block_lt_of_cell? w _ hw200_6)).trans hw200_6), ((HB.out.cell (World.block_lt_of_cell? w _ hw200_7)).trans hw200_7), ((HB.out.cell (World.block_lt_of_cell? w _ hw200_8)).trans hw200_8), ((HB.out.cell (World.block_lt_of_cell? w _ hw200_9)).trans hw200_9), ((HB.out.cell (World.block_lt_of_cell? w _ hw200_10)).trans hw200_10)⟩ (fun hHeld => ?_); refine with_tabW noonmarkref14_year.tab6 noonmarkref14_year.bits6 (fun HT_ HW_ => ?_)
                    generalize wc.drew = w14 at HO_5 HB hx199_0 hx199_1 hx199_10 hx199_2 hx199_3 hx199_4 hx199_5 hx199_6 hx199_7 hx199_8 hx199_9 hx200_0 hx200_1 hx200_10 hx200_2 hx200_3 hx200_4 hx200_5 hx200_6 hx200_7 hx200_8 hx200_9 hHeld ⊢
                    refine pure_ (i := 0) (N := some 42) (v := ?_) (a' := ?_) #[true, false, false, false, false, false, false, false, false, false, false, false, false, false, false, false, false] rfl rfl (any_of HT_.out (by kernel_rfl)) (fun _ _ _ h => h) (Or.inl ⟨by rfl, ?_⟩) ?_ ?_
                    rotate_left
                    · intro w'
                      go_simp
                      with_reducible rfl
                    rotate_left
                    · simp only [Act.put, List.setIfInBounds_toArray, List.set_cons_zero, List.set_cons_succ, i64_w, i32_w]
                      rfl
                    refine pure_ (i := 1) (N := some 43) (v := ?_) (a' := ?_) #[true, true, false, false, false, false, false, false, false, false, false, false, false, false, false, false, false] rfl rfl (any_of HT_.out (by kernel_rfl)) (fun _ _ _ h => h) (Or.inl ⟨by rfl, ?_⟩) ?_ ?_
                    rotate_left
                    · intro w'
                      go_simp
                      with_reducible rfl
                    rotate_left
                    · simp only [Act.put, List.setIfInBounds_toArray, List.set_cons_zero, List.set_cons_succ, i64_w, i32_w]
                      rfl
                    refine pure_ (i := 2) (N := some 44) (v := ?_) (a' := ?_) #[true, true, true, false, false, false, false, false, false, false, false, false, false, false, false, false, false] rfl rfl (any_of HT_.out (by kernel_rfl)) (fun _ _ _ h => h) (Or.inl ⟨by rfl, ?_⟩) ?_ ?_
                    rotate_left
                    · intro w'
                      go_simp
                      with_reducible rfl
                    rotate_left
                    · simp only [Act.put, List.setIfInBounds_toArray, List.set_cons_zero, List.set_cons_succ, i64_w, i32_w]
                      rfl
                    refine pure_ (i := 3) (N := some 45) (v := ?_) (a' := ?_) #[true, true, true, true, false, false, false, false, false, false, false, false, false, false, false, false, false] rfl rfl (any_of HT_.out (by kernel_rfl)) (fun _ _ _ h => h) (Or.inl ⟨by rfl, ?_⟩) ?_ ?_
                    rotate_left
                    · intro w'
                      go_simp
                      with_reducible rfl
                    rotate_left
                    · simp only [Act.put, List.setIfInBounds_toArray, List.set_cons_zero, List.set_cons_succ, i64_w, i32_w]
                      rfl
                    refine pure_ (i := 5) (N := some 47) (v := ?_) (a' := ?_) #[true, true, true, true, false, true, false, false, false, false, false, false, false, false, false, false, false] rfl rfl (any_of HT_.out (by kernel_rfl)) (fun _ _ _ h => h) (Or.inl ⟨by rfl, ?_⟩) ?_ ?_
                    rotate_left
                    · intro w'
                      go_simp
                      with_reducible rfl
                    rotate_left
                    · simp only [Act.put, List.setIfInBounds_toArray, List.set_cons_zero, List.set_cons_succ, i64_w, i32_w]
                      rfl
                    refine pure_ (i := 6) (N := some 48) (v := ?_) (a' := ?_) #[true, true, true, true, false, true, true, false, false, false, false, false, false, false, false, false, false] rfl rfl (any_of HT_.out (by kernel_rfl)) (fun _ _ _ h => h) (Or.inl ⟨by rfl, ?_⟩) ?_ ?_
                    rotate_left
                    · intro w'
                      go_simp
                      with_reducible rfl
                    rotate_left
                    · simp only [Act.put, List.setIfInBounds_toArray, List.set_cons_zero, List.set_cons_succ, i64_w, i32_w]
                      rfl
                    refine pure_ (i := 7) (N := some 49) (v := ?_) (a' := ?_) #[true, true, true, true, false, true, true, true, false, false, false, false, false, false, false, false, false] rfl rfl (any_of HT_.out (by kernel_rfl)) (fun _ _ _ h => h) (Or.inl ⟨by rfl, ?_⟩) ?_ ?_
                    rotate_left
                    · intro w'
                      go_simp
                      with_reducible rfl
                    rotate_left
                    · simp only [Act.put, List.setIfInBounds_toArray, List.set_cons_zero, List.set_cons_succ, i64_w, i32_w]
                      rfl
                    refine pure_ (i := 8) (N := some 50) (v := ?_) (a' := ?_) #[true, true, true, true, false, true, true, true, true, false, false, false, false, false, false, false, false] rfl rfl (any_of HT_.out (by kernel_rfl)) (fun _ _ _ h => h) (Or.inl ⟨by rfl, ?_⟩) ?_ ?_
                    rotate_left
                    · intro w'
                      go_simp
                      with_reducible rfl
                    rotate_left
                    · simp only [Act.put, List.setIfInBounds_toArray, List.set_cons_zero, List.set_cons_succ, i64_w, i32_w]
                      rfl
                    refine pure_ (i := 9) (N := some 51) (v := ?_) (a' := ?_) #[true, true, true, true, false, true, true, true, true, true, false, false, false, false, false, false, false] rfl rfl (any_of HT_.out (by kernel_rfl)) (fun _ _ _ h => h) (Or.inl ⟨by rfl, ?_⟩) ?_ ?_
                    rotate_left
                    · intro w'
                      go_simp
                      with_reducible rfl
                    rotate_left
                    · simp only [Act.put, List.setIfInBounds_toArray, List.set_cons_zero, List.set_cons_succ, i64_w, i32_w]
                      rfl
                    refine take_ (i := 4) (N := some 46) (v := ?_) (a' := ?_) #[true, true, true, true, true, true, true, true, true, true, false, false, false, false, false, false, false] rfl rfl (take_ofW HT_.out HW_.out (by kernel_rfl)) (fun _ _ _ h => h) (Or.inl ⟨by rfl, ?_⟩) hHeld ?_ ?_
                    rotate_left
                    · rintro w' ⟨s0, s1, s2, s3, s4, s5, s6, s7, s8, s9, s10, s11, s12, s13, s14, s15, s16, s17, s18, s19, s20, s21⟩
                      go_simp
                      with_reducible rfl
                    rotate_left
                    · simp only [Act.put, List.setIfInBounds_toArray, List.set_cons_zero, List.set_cons_succ, i64_w, i32_w]
                      rfl
                    refine take_ (i := 10) (N := some 52) (v := ?_) (a' := ?_) #[true, true, true, true, true, true, true, true, true, true, true, false, false, false, false, false, false] rfl rfl (take_ofW HT_.out HW_.out (by kernel_rfl)) (fun _ _ _ h => h) (Or.inl ⟨by rfl, ?_⟩) hHeld ?_ ?_
                    rotate_left
                    · rintro w' ⟨s0, s1, s2, s3, s4, s5, s6, s7, s8, s9, s10, s11, s12, s13, s14, s15, s16, s17, s18, s19, s20, s21⟩
                      go_simp
                      with_reducible rfl
                    rotate_left
                    · simp only [Act.put, List.setIfInBounds_toArray, List.set_cons_zero, List.set_cons_succ, i64_w, i32_w]
                      rfl
                    refine one_ (i := 11) (N := some 53) #[true, true, true, true, true, true, true, true, true, true, true, true, false, false, false, false, false] rfl rfl (one_of HT_.out (by kernel_rfl)) (by decide) (fun K hK => ?_)
                    refine goes_ Try.func36 (by kernel_rfl) rfl #[.agg #[.int .i64 ((rd_T42 l0 x6_1).f4.f0), .int .i64 ((rd_T42 l0 x6_1).f4.f1), .int .i64 ((rd_T42 l0 x6_1).f4.f2)], .int .i64 a1, .int .i64 ((rd_T42 l0 x6_1).f3)] (by rfl) rfl rfl (by (try simp only [List.map_toArray, List.map_cons, List.map_nil]); first | done | rfl | (simp only [List.length_drop, List.length_take]; rfl)) ?_
                    with_reducible refine (noonmarkref06_Of.calls kj3 ((rd_T42 l0 x6_1).f4.f0) ((rd_T42 l0 x6_1).f4.f1) ((rd_T42 l0 x6_1).f4.f2) a1 ((rd_T42 l0 x6_1).f3) t201 t202 _ A12.out).mono ?_
                    rintro e w15 ⟨rfl, hb⟩
                    refine ⟨_, rfl, ?_⟩
                    have n0_ := Aside0.mk (Kd.R_below (by (with_reducible repeat (first | apply Kd.R_alloc | apply Kd.R_drewN | apply Kd.R_drew)); exact HO_5.out) hb)
                    have n1_ := Aside0.mk (below_step (by repeat (first | (with_reducible first | exact HB.out | apply below_alloc | apply pw_below_drewN | apply below_drew1) | exact HB.out)) hb)
                    clear HO_5
                    clear HB
                    have HO_5 := n0_
                    have HB := n1_
                    clear n0_ n1_
                    (try clear hb)
                    (try clear hb2)
                    (try clear hk)
                    (try clear hi)
                    refine hK.out _ _ ⟨((HB.out.cell (World.block_lt_of_cell? w _ hw199_0)).trans hw199_0), ((HB.out.cell (World.block_lt_of_cell? w _ hw199_1)).trans hw199_1), ((HB.out.cell (World.block_lt_of_cell? w _ hw199_2)).trans hw199_2), ((HB.out.cell (World.block_lt_of_cell? w _ hw199_3)).trans hw199_3), ((HB.out.cell (World.block_lt_of_cell? w _ hw199_4)).trans hw199_4), ((HB.out.cell (World.block_lt_of_cell? w _ hw199_5)).trans hw199_5), ((HB.out.cell (World.block_lt_of_cell? w _ hw199_6)).trans hw199_6), ((HB.out.cell (World.block_lt_of_cell? w _ hw199_7)).trans hw199_7), ((HB.out.cell (World.block_lt_of_cell? w _ hw199_8)).trans hw199_8), ((HB.out.cell (World.block_lt_of_cell? w _ hw199_9)).trans hw199_9), ((HB.out.cell (World.block_lt_of_cell? w _ hw199_10)).trans hw199_10), ((HB.out.cell (World.block_lt_of_cell? w _ hw200_0)).trans hw200_0), ((HB.out.cell (World.block_lt_of_cell? w _ hw200_1)).trans hw200_1), ((HB.out.cell (World.block_lt_of_cell? w _ hw200_2)).trans hw200_2), ((HB.out.cell (World.block_lt_of_cell? w _ hw200_3)).trans hw200_3), ((HB.out.cell (World.block_lt_of_cell? w _ hw200_4)).trans hw200_4), ((HB.out.cell (World.block_lt_of_cell? w _ hw200_5)).trans hw200_5), ((HB.out.cell (World.block_lt_of_cell? w _ hw200_6)).trans hw200_6), ((HB.out.cell (World.block_lt_of_cell? w _ hw200_7)).trans hw200_7), ((HB.out.cell (World.block_lt_of_cell? w _ hw200_8)).trans hw200_8), ((HB.out.cell (World.block_lt_of_cell? w _ hw200_9)).trans hw200_9), ((HB.out.cell (World.block_lt_of_cell? w _ hw200_10)).trans hw200_10)⟩ (fun hHeld => ?_)
                    clear hK K
                    refine norm_ (a' := ?_) ?_ ?_
                    rotate_left
                    · show Act.put _ (some 53) _ = _
                      simp only [Act.put, List.setIfInBounds_toArray, List.set_cons_zero, List.set_cons_succ, i64_w, i32_w]
                      rfl
                    refine pure_ (i := 12) (N := some 41) (v := ?_) (a' := ?_) #[true, true, true, true, true, true, true, true, true, true, true, true, true, false, false, false, false] rfl rfl (any_of HT_.out (by kernel_rfl)) (fun _ _ _ h => h) (Or.inl ⟨by rfl, ?_⟩) ?_ ?_
                    rotate_left
                    · intro w'
                      go_simp
                      with_reducible rfl
                    rotate_left
                    · simp only [Act.put, List.setIfInBounds_toArray, List.set_cons_zero, List.set_cons_succ, i64_w, i32_w]
                      rfl
                    refine pure_ (i := 13) (N := some 54) (v := ?_) (a' := ?_) #[true, true, true, true, true, true, true, true, true, true, true, true, true, true, false, false, false] rfl rfl (any_of HT_.out (by kernel_rfl)) (fun _ _ _ h => h) (Or.inl ⟨by rfl, ?_⟩) ?_ ?_
                    rotate_left
                    · intro w'
                      go_simp
                      with_reducible rfl
                    rotate_left
                    · simp only [Act.put, List.setIfInBounds_toArray, List.set_cons_zero, List.set_cons_succ, i64_w, i32_w]
                      rfl
                    refine pure_ (i := 14) (N := some 55) (v := ?_) (a' := ?_) #[true, true, true, true, true, true, true, true, true, true, true, true, true, true, true, false, false] rfl rfl (any_of HT_.out (by kernel_rfl)) (fun _ _ _ h => h) (Or.inl ⟨by rfl, ?_⟩) ?_ ?_
                    rotate_left
                    · intro w'
                      go_simp
                      with_reducible rfl
                    rotate_left
                    · simp only [Act.put, List.setIfInBounds_toArray, List.set_cons_zero, List.set_cons_succ, i64_w, i32_w]
                      rfl
                    refine pure_ (i := 15) (N := some 7) (v := ?_) (a' := ?_) #[true, true, true, true, true, true, true, true, true, true, true, true, true, true, true, true, false] rfl rfl (any_of HT_.out (by kernel_rfl)) (fun _ _ _ h => h) (Or.inl ⟨by rfl, ?_⟩) ?_ ?_
                    rotate_left
                    · intro w'
                      go_simp
                      with_reducible rfl
                    rotate_left
                    · simp only [Act.put, List.setIfInBounds_toArray, List.set_cons_zero, List.set_cons_succ, i64_w, i32_w]
                      rfl
                    refine pure_ (i := 16) (N := some 8) (v := ?_) (a' := ?_) #[true, true, true, true, true, true, true, true, true, true, true, true, true, true, true, true, true] rfl rfl (any_of HT_.out (by kernel_rfl)) (fun _ _ _ h => h) (Or.inl ⟨by rfl, ?_⟩) ?_ ?_
                    rotate_left
                    · intro w'
                      go_simp
                      with_reducible rfl
                    rotate_left
                    · simp only [Act.put, List.setIfInBounds_toArray, List.set_cons_zero, List.set_cons_succ, i64_w, i32_w]
                      rfl
                    refine done_ (done_of HT_.out (by kernel_rfl)) ?_
                    have p203 : 0 ≤ (x6_1 : Int) := of_decide_eq_true (by first | (with_reducible assumption) | assumption)
                    have q203 : x6_1 < (l0.length : Int) := of_decide_eq_true (by first | (with_reducible assumption) | assumption)
                    obtain ⟨ad203, e203, hx203_0, hx203_1, hx203_2, hx203_3, hx203_4, hx203_5, hx203_6, hx203_7, hx203_8, hx203_9, hx203_10⟩ := at_T42 HR0.out x6_1 p203 q203
                    obtain rfl : ad199 = ad203 := (by injection e203)
                    replace hx203_0 := (HB.out.cell (World.block_lt_of_cell? w _ hx203_0)).trans hx203_0
                    replace hx203_1 := (HB.out.cell (World.block_lt_of_cell? w _ hx203_1)).trans hx203_1
                    replace hx203_2 := (HB.out.cell (World.block_lt_of_cell? w _ hx203_2)).trans hx203_2
                    replace hx203_3 := (HB.out.cell (World.block_lt_of_cell? w _ hx203_3)).trans hx203_3
                    replace hx203_4 := (HB.out.cell (World.block_lt_of_cell? w _ hx203_4)).trans hx203_4
                    replace hx203_5 := (HB.out.cell (World.block_lt_of_cell? w _ hx203_5)).trans hx203_5
                    replace hx203_6 := (HB.out.cell (World.block_lt_of_cell? w _ hx203_6)).trans hx203_6
                    replace hx203_7 := (HB.out.cell (World.block_lt_of_cell? w _ hx203_7)).trans hx203_7
                    replace hx203_8 := (HB.out.cell (World.block_lt_of_cell? w _ hx203_8)).trans hx203_8
                    replace hx203_9 := (HB.out.cell (World.block_lt_of_cell? w _ hx203_9)).trans hx203_9
                    replace hx203_10 := (HB.out.cell (World.block_lt_of_cell? w _ hx203_10)).trans hx203_10
                    replace p203 := eq_true p203
                    replace q203 := eq_true q203
                    try go_wp2_with (first | ((with_reducible refine gate_dst (N := 9) rfl ?_); refine box_event ?hg (N := 9) ?hd (cs := #[.int .i64 0, .int .i64 0, .int .i64 0, .int .i64 0]) (t := 47) ?hr ?_; (case hd => rfl); (case hg => rfl); (case hr => first | (go_simp; done) | (go_simp; rfl)); intro gb204 hg w16 hbox hb; have n0_ := Aside0.mk (Kd.R_below (Kd.R_elderB (by (with_reducible repeat (first | apply Kd.R_alloc | apply Kd.R_drewN | apply Kd.R_drew)); exact HO_5.out) gb204 (Nat.le_of_eq hg.symm)) hb); have n1_ := Aside0.mk (below_step (by repeat (first | (with_reducible first | exact HB.out | apply below_alloc | apply pw_below_drewN | apply below_drew1) | exact HB.out)) hb); have n2_ := Aside0.mk (hbox); have n3_ := Aside0.mk ((by rw [hg]; exact (below_size (by repeat (first | (with_reducible first | exact HB.out | apply below_alloc | apply pw_below_drewN | apply below_drew1) | exact HB.out))) : w.heap.size ≤ gb204)); have n4_ := Aside0.mk ((by rw [hg]; exact (below_size (by repeat (first | (with_reducible first | exact HB.out | apply below_alloc | apply pw_below_drewN | apply below_drew1) | exact HB.out))) : w.heap.size ≤ gb204)); clear HO_5; clear HB; have HO_5 := n0_; have HB := n1_; have BK204 := n2_; have GW204 := n3_; have GE204 := n4_; clear n0_ n1_ n2_ n3_ n4_; clear hb hbox hg; have hcz17_0 : w16.cell? ⟨gb204, 0, none⟩ = some (.int .i64 0) := (blk_cell BK204.out 0).trans rfl; have hcz17_1 : w16.cell? ⟨gb204, 1, none⟩ = some (.int .i64 0) := (blk_cell BK204.out 1).trans rfl; have hcz17_2 : w16.cell? ⟨gb204, 2, none⟩ = some (.int .i64 0) := (blk_cell BK204.out 2).trans rfl; have hcz17_3 : w16.cell? ⟨gb204, 3, none⟩ = some (.int .i64 0) := (blk_cell BK204.out 3).trans rfl; have hfz17_0 := blk_frozen BK204.out 0; have hfz17_1 := blk_frozen BK204.out 1; have hfz17_2 := blk_frozen BK204.out 2; have hfz17_3 := blk_frozen BK204.out 3))
                    go_loopg [10] kj3 (fun kq v10 w' => ∃ (x10_3 : Int), v10 = .int .i64 x10_3 ∧ Aside0 (noonmarkref14_year.l1 kq l0 a1 x5_1 x6_1 x10_3 x6_1 a1 (wrap64 ((wrap64 (t201 * 86400)) + ((rd_T42 l0 x6_1).f5.f0))) 0 = some r) ∧ Aside0 (kq ≤ kj3) ∧ Aside0 (Kd.R k47 47 w' w.heap.size (fun k_ => k_ ≠ gb204) u5 x5_1) ∧ Aside0 (w'.heap[gb204]? = some (.cells #[.int .i64 x6_1, .int .i64 a1, .int .i64 (wrap64 ((wrap64 (t201 * 86400)) + ((rd_T42 l0 x6_1).f5.f0))), .int .i64 0] 47 (0, 0))) ∧ Aside0 (Below w.heap.size w w'))
                    case atStart => exact ⟨(0), (by first | rfl | (simp; done) | (simp [*]; done)), H', ⟨Nat.le_refl _⟩, ⟨by (with_reducible repeat (first | apply Kd.R_alloc | apply Kd.R_drewN | apply Kd.R_drew)); exact Kd.R_mono (Kd.R_far (p := ⟨gb204, 3, none⟩) (Kd.R_far (p := ⟨gb204, 2, none⟩) (Kd.R_far (p := ⟨gb204, 1, none⟩) (Kd.R_far (p := ⟨gb204, 0, none⟩) (Kd.R_mono HO_5.out (fun k_ hk => (⟨hk, hk.2⟩ : _ ∧ k_ ≠ gb204))) (fun _ hk => hk.2) (.int .i64 x6_1)) (fun _ hk => hk.2) (.int .i64 a1)) (fun _ hk => hk.2) (.int .i64 (wrap64 ((wrap64 (t201 * 86400)) + ((rd_T42 l0 x6_1).f5.f0))))) (fun _ hk => hk.2) (.int .i64 0)) (fun _ hk => hk.1.2)⟩, ⟨by (with_reducible repeat (first | refine blk_drewN ?_ _ | refine blk_drew ?_ | refine blk_alloc ?_ _)); refine blk_put (cs := #[.int .i64 x6_1, .int .i64 a1, .int .i64 (wrap64 ((wrap64 (t201 * 86400)) + ((rd_T42 l0 x6_1).f5.f0))), .int .i64 0]) ?_ 3 _ rfl; (with_reducible repeat (first | refine blk_drewN ?_ _ | refine blk_drew ?_ | refine blk_alloc ?_ _)); refine blk_put (cs := #[.int .i64 x6_1, .int .i64 a1, .int .i64 0, .int .i64 0]) ?_ 2 _ rfl; (with_reducible repeat (first | refine blk_drewN ?_ _ | refine blk_drew ?_ | refine blk_alloc ?_ _)); refine blk_put (cs := #[.int .i64 x6_1, .int .i64 0, .int .i64 0, .int .i64 0]) ?_ 1 _ rfl; (with_reducible repeat (first | refine blk_drewN ?_ _ | refine blk_drew ?_ | refine blk_alloc ?_ _)); refine blk_put (cs := #[.int .i64 0, .int .i64 0, .int .i64 0, .int .i64 0]) ?_ 0 _ rfl; (with_reducible repeat (first | refine blk_drewN ?_ _ | refine blk_drew ?_ | refine blk_alloc ?_ _)); exact BK204.out⟩, ⟨by repeat (first | (with_reducible first | exact HB.out | apply below_alloc | apply pw_below_drewN | apply below_drew1 | refine below_set ?_ GE204.out) | exact HB.out)⟩⟩
                    case round =>
                      clear H'
                      try clear c1
                      try clear p1
                      try clear q1
                      try clear hx1
                      try clear c2
                      try clear p2
                      try clear q2
                      try clear hx2
                      try clear c3
                      try clear c3b0
                      try clear c5
                      try clear c5b0
                      try clear c6
                      try clear c6b0
                      try clear p6
                      try clear c7
                      try clear c7b0
                      try clear c8
                      try clear c8b0
                      try clear c9
                      try clear c10
                      try clear c10b0
                      try clear c11
                      try clear c11b0
                      try clear c13
                      try clear c13b0
                      try clear c13b1
                      try clear hcz17_0
                      try clear hcz17_1
                      try clear hcz17_2
                      try clear hcz17_3
                      try clear hfz17_0
                      try clear hfz17_1
                      try clear hfz17_2
                      try clear hfz17_3
                      try clear hx197_0
                      try clear hx197_1
                      try clear hx197_10
                      try clear hx197_2
                      try clear hx197_3
                      try clear hx197_4
                      try clear hx197_5
                      try clear hx197_6
                      try clear hx197_7
                      try clear hx197_8
                      try clear hx197_9
                      try clear hx198_0
                      try clear hx198_1
                      try clear hx198_10
                      try clear hx198_2
                      try clear hx198_3
                      try clear hx198_4
                      try clear hx198_5
                      try clear hx198_6
                      try clear hx198_7
                      try clear hx198_8
                      try clear hx198_9
                      try clear hx199_0
                      try clear hx199_1
                      try clear hx199_10
                      try clear hx199_2
                      try clear hx199_3
                      try clear hx199_4
                      try clear hx199_5
                      try clear hx199_6
                      try clear hx199_7
                      try clear hx199_8
                      try clear hx199_9
                      try clear hx200_0
                      try clear hx200_1
                      try clear hx200_10
                      try clear hx200_2
                      try clear hx200_3
                      try clear hx200_4
                      try clear hx200_5
                      try clear hx200_6
                      try clear hx200_7
                      try clear hx200_8
                      try clear hx200_9
                      try clear hx203_0
                      try clear hx203_1
                      try clear hx203_10
                      try clear hx203_2
                      try clear hx203_3
                      try clear hx203_4
                      try clear hx203_5
                      try clear hx203_6
                      try clear hx203_7
                      try clear hx203_8
                      try clear hx203_9
                      try clear p1
                      try clear p197
                      try clear p198
                      try clear p199
                      try clear p2
                      try clear p200
                      try clear p203
                      try clear q1
                      try clear q197
                      try clear q198
                      try clear q199
                      try clear q200
                      try clear q203
                      obtain ⟨x10_3, rfl, HA, HK3, HO_5, BK204, HB⟩ := hrel
                      cases gk with
                      | zero => exact absurd HA.out (by simp [noonmarkref14_year.l1])
                      | succ k3 =>
                        have H := HA.out
                        clear HA
                        simp only [noonmarkref14_year.l1] at H
                        by_cases c18 : x10_3 < (x5_1.length : Int)
                        · rw [if_pos c18] at H
                          have c18b0 : decide (x10_3 < (x5_1.length : Int)) = true := decide_eq_true c18
                          clear c18
                          by_cases c19 : 0 ≤ x10_3
                          · rw [if_pos c19] at H
                            have c19b0 : decide (0 ≤ x10_3) = true := decide_eq_true c19
                            clear c19
                            replace H := Option.bind_eq_some_iff.mp H
                            obtain ⟨t206, A200, H⟩ := H
                            replace H : (if t206 = true then (noonmarkref14_year.l1 k3 l0 a1 x5_1 x6_1 (wrap64 (x10_3 + 1)) x6_1 a1 (wrap64 ((wrap64 (t201 * 86400)) + ((rd_T42 l0 x6_1).f5.f0))) 0) else (if x5_1.length < 4398046511104 then (noonmarkref14_year.l0 k3 l0 a1 (insE x5_1 x10_3 (⟨x6_1, a1, (wrap64 ((wrap64 (t201 * 86400)) + ((rd_T42 l0 x6_1).f5.f0))), 0⟩ : S47)) (wrap64 (x6_1 + 1))) else (none))) = some r := H
                            have A20 := Aside0.mk A200
                            clear A200
                            by_cases c21 : t206 = true
                            · subst c21
                              have H1 : (noonmarkref14_year.l1 k3 l0 a1 x5_1 x6_1 (wrap64 (x10_3 + 1)) x6_1 a1 (wrap64 ((wrap64 (t201 * 86400)) + ((rd_T42 l0 x6_1).f5.f0))) 0) = some r := by rw [if_pos rfl] at H; exact H
                              clear H
                              have H := H1
                              clear H1
                              have H' := Aside0.mk H
                              clear H
                              try go_wp2
                              have n0_ := Aside0.mk (Kd.R_drew HO_5.out)
                              have n1_ := Aside0.mk (blk_drew BK204.out)
                              have n2_ := Aside0.mk (below_drew1 HB.out)
                              clear HO_5
                              clear BK204
                              clear HB
                              have HO_5 := n0_
                              have BK204 := n1_
                              have HB := n2_
                              clear n0_ n1_ n2_
                              obtain ⟨Ao23, co23, eo23⟩ := Kd.R_slice HO_5.out
                              (first | subst eo23 | (injection eo23 with f1_ f2_ f3_; have f4_ := f1_.symm; have f5_ := f3_.symm; clear f1_ f2_ f3_; subst f4_; subst f5_))
                              have p205 : 0 ≤ (x10_3 : Int) := of_decide_eq_true (by first | (with_reducible assumption) | assumption)
                              have q205 : x10_3 < (x5_1.length : Int) := of_decide_eq_true (by first | (with_reducible assumption) | assumption)
                              obtain ⟨ad205, e205, hx205_0, hx205_1, hx205_2, hx205_3⟩ := at_T47 (Kd.R_reads' HO_5.out).2.2 x10_3 p205 q205
                              cases e205
                              replace p205 := eq_true p205
                              replace q205 := eq_true q205
                              refine start_ (n := 12) (S := fun w' => w'.cell? ⟨gb204, 0, none⟩ = some (.int .i64 x6_1) ∧ w'.cell? ⟨gb204, 1, none⟩ = some (.int .i64 a1) ∧ w'.cell? ⟨gb204, 2, none⟩ = some (.int .i64 (wrap64 ((wrap64 (t201 * 86400)) + ((rd_T42 l0 x6_1).f5.f0)))) ∧ w'.cell? ⟨gb204, 3, none⟩ = some (.int .i64 0) ∧ w'.cell? (ad205.add ((x10_3).toNat * 4)) = some (.int .i64 ((rd_T47 x5_1 x10_3).f0)) ∧ w'.cell? ⟨(ad205.add ((x10_3).toNat * 4)).block, (ad205.add ((x10_3).toNat * 4)).off + 1, none⟩ = some (.int .i64 ((rd_T47 x5_1 x10_3).f1)) ∧ w'.cell? ⟨(ad205.add ((x10_3).toNat * 4)).block, (ad205.add ((x10_3).toNat * 4)).off + 2, none⟩ = some (.int .i64 ((rd_T47 x5_1 x10_3).f2)) ∧ w'.cell? ⟨(ad205.add ((x10_3).toNat * 4)).block, (ad205.add ((x10_3).toNat * 4)).off + 3, none⟩ = some (.int .i64 ((rd_T47 x5_1 x10_3).f3))) (ds := []) #[false, false, false, false, false, false, false, false, false, false, false, false] (by kernel_rfl) rfl rfl ⟨(blk_cell BK204.out 0).trans rfl, (blk_cell BK204.out 1).trans rfl, (blk_cell BK204.out 2).trans rfl, (blk_cell BK204.out 3).trans rfl, hx205_0, hx205_1, hx205_2, hx205_3⟩ (fun hHeld => ?_); refine with_tabW noonmarkref14_year.tab10 noonmarkref14_year.bits10 (fun HT_ HW_ => ?_)
                              generalize wr.drew = w22 at HO_5 BK204 HB hx205_0 hx205_1 hx205_2 hx205_3 hHeld ⊢
                              refine pure_ (i := 0) (N := some 70) (v := ?_) (a' := ?_) #[true, false, false, false, false, false, false, false, false, false, false, false] rfl rfl (any_of HT_.out (by kernel_rfl)) (fun _ _ _ h => h) (Or.inl ⟨by rfl, ?_⟩) ?_ ?_
                              rotate_left
                              · intro w'
                                go_simp
                                with_reducible rfl
                              rotate_left
                              · simp only [Act.put, List.setIfInBounds_toArray, List.set_cons_zero, List.set_cons_succ, i64_w, i32_w]
                                rfl
                              refine pure_ (i := 1) (N := some 71) (v := ?_) (a' := ?_) #[true, true, false, false, false, false, false, false, false, false, false, false] rfl rfl (any_of HT_.out (by kernel_rfl)) (fun _ _ _ h => h) (Or.inl ⟨by rfl, ?_⟩) ?_ ?_
                              rotate_left
                              · intro w'
                                go_simp
                                with_reducible rfl
                              rotate_left
                              · simp only [Act.put, List.setIfInBounds_toArray, List.set_cons_zero, List.set_cons_succ, i64_w, i32_w]
                                rfl
                              refine pure_ (i := 2) (N := some 72) (v := ?_) (a' := ?_) #[true, true, true, false, false, false, false, false, false, false, false, false] rfl rfl (any_of HT_.out (by kernel_rfl)) (fun _ _ _ h => h) (Or.inl ⟨by rfl, ?_⟩) ?_ ?_
                              rotate_left
                              · intro w'
                                go_simp
                                with_reducible rfl
                              rotate_left
                              · simp only [Act.put, List.setIfInBounds_toArray, List.set_cons_zero, List.set_cons_succ, i64_w, i32_w]
                                rfl
                              refine pure_ (i := 3) (N := some 73) (v := ?_) (a' := ?_) #[true, true, true, true, false, false, false, false, false, false, false, false] rfl rfl (any_of HT_.out (by kernel_rfl)) (fun _ _ _ h => h) (Or.inl ⟨by rfl, ?_⟩) ?_ ?_
                              rotate_left
                              · intro w'
                                go_simp
                                with_reducible rfl
                              rotate_left
                              · simp only [Act.put, List.setIfInBounds_toArray, List.set_cons_zero, List.set_cons_succ, i64_w, i32_w]
                                rfl
                              refine pure_ (i := 4) (N := some 74) (v := ?_) (a' := ?_) #[true, true, true, true, true, false, false, false, false, false, false, false] rfl rfl (any_of HT_.out (by kernel_rfl)) (fun _ _ _ h => h) (Or.inl ⟨by rfl, ?_⟩) ?_ ?_
                              rotate_left
                              · intro w'
                                go_simp
                                with_reducible rfl
                              rotate_left
                              · simp only [Act.put, List.setIfInBounds_toArray, List.set_cons_zero, List.set_cons_succ, i64_w, i32_w]
                                rfl
                              refine pure_ (i := 5) (N := some 75) (v := ?_) (a' := ?_) #[true, true, true, true, true, true, false, false, false, false, false, false] rfl rfl (any_of HT_.out (by kernel_rfl)) (fun _ _ _ h => h) (Or.inl ⟨by rfl, ?_⟩) ?_ ?_
                              rotate_left
                              · intro w'
                                go_simp
                                with_reducible rfl
                              rotate_left
                              · simp only [Act.put, List.setIfInBounds_toArray, List.set_cons_zero, List.set_cons_succ, i64_w, i32_w]
                                rfl
                              refine pure_ (i := 6) (N := some 76) (v := ?_) (a' := ?_) #[true, true, true, true, true, true, true, false, false, false, false, false] rfl rfl (any_of HT_.out (by kernel_rfl)) (fun _ _ _ h => h) (Or.inl ⟨by rfl, ?_⟩) ?_ ?_
                              rotate_left
                              · intro w'
                                go_simp
                                with_reducible rfl
                              rotate_left
                              · simp only [Act.put, List.setIfInBounds_toArray, List.set_cons_zero, List.set_cons_succ, i64_w, i32_w]
                                rfl
                              refine pure_ (i := 7) (N := some 77) (v := ?_) (a' := ?_) #[true, true, true, true, true, true, true, true, false, false, false, false] rfl rfl (any_of HT_.out (by kernel_rfl)) (fun _ _ _ h => h) (Or.inl ⟨by rfl, ?_⟩) ?_ ?_
                              rotate_left
                              · intro w'
                                go_simp
                                with_reducible rfl
                              rotate_left
                              · simp only [Act.put, List.setIfInBounds_toArray, List.set_cons_zero, List.set_cons_succ, i64_w, i32_w]
                                rfl
                              refine take_ (i := 8) (N := some 78) (v := ?_) (a' := ?_) #[true, true, true, true, true, true, true, true, true, false, false, false] rfl rfl (take_ofW HT_.out HW_.out (by kernel_rfl)) (fun _ _ _ h => h) (Or.inl ⟨by rfl, ?_⟩) hHeld ?_ ?_
                              rotate_left
                              · rintro w' ⟨s0, s1, s2, s3, s4, s5, s6, s7⟩
                                go_simp
                                with_reducible rfl
                              rotate_left
                              · simp only [Act.put, List.setIfInBounds_toArray, List.set_cons_zero, List.set_cons_succ, i64_w, i32_w]
                                rfl
                              refine take_ (i := 9) (N := some 79) (v := ?_) (a' := ?_) #[true, true, true, true, true, true, true, true, true, true, false, false] rfl rfl (take_ofW HT_.out HW_.out (by kernel_rfl)) (fun _ _ _ h => h) (Or.inl ⟨by rfl, ?_⟩) hHeld ?_ ?_
                              rotate_left
                              · rintro w' ⟨s0, s1, s2, s3, s4, s5, s6, s7⟩
                                go_simp
                                with_reducible rfl
                              rotate_left
                              · simp only [Act.put, List.setIfInBounds_toArray, List.set_cons_zero, List.set_cons_succ, i64_w, i32_w]
                                rfl
                              refine one_ (i := 10) (N := some 80) #[true, true, true, true, true, true, true, true, true, true, true, false] rfl rfl (one_of HT_.out (by kernel_rfl)) (by decide) (fun K hK => ?_)
                              refine goes_ Try.func37 (by kernel_rfl) rfl #[.agg #[.int .i64 ((rd_T47 x5_1 x10_3).f0), .int .i64 ((rd_T47 x5_1 x10_3).f1), .int .i64 ((rd_T47 x5_1 x10_3).f2), .int .i64 ((rd_T47 x5_1 x10_3).f3)], .agg #[.int .i64 x6_1, .int .i64 a1, .int .i64 (wrap64 ((wrap64 (t201 * 86400)) + ((rd_T42 l0 x6_1).f5.f0))), .int .i64 0]] (by rfl) rfl rfl (by (try simp only [List.map_toArray, List.map_cons, List.map_nil]); first | done | rfl | (simp only [List.length_drop, List.length_take]; rfl)) ?_
                              with_reducible refine (noonmarkref14_before.calls ((rd_T47 x5_1 x10_3).f0) ((rd_T47 x5_1 x10_3).f1) ((rd_T47 x5_1 x10_3).f2) ((rd_T47 x5_1 x10_3).f3) x6_1 a1 (wrap64 ((wrap64 (t201 * 86400)) + ((rd_T42 l0 x6_1).f5.f0))) 0 true _ A20.out).mono ?_
                              rintro e w24 ⟨rfl, hb⟩
                              have HS4_ := (hb.cell (World.block_lt_of_cell? _ _ (hHeld.2.2.2.2.1))).trans (hHeld.2.2.2.2.1)
                              have HS5_ := (hb.cell (World.block_lt_of_cell? _ _ (hHeld.2.2.2.2.2.1))).trans (hHeld.2.2.2.2.2.1)
                              have HS6_ := (hb.cell (World.block_lt_of_cell? _ _ (hHeld.2.2.2.2.2.2.1))).trans (hHeld.2.2.2.2.2.2.1)
                              have HS7_ := (hb.cell (World.block_lt_of_cell? _ _ (hHeld.2.2.2.2.2.2.2))).trans (hHeld.2.2.2.2.2.2.2)
                              refine ⟨_, rfl, ?_⟩
                              have n0_ := Aside0.mk (Kd.R_below (by (with_reducible repeat (first | apply Kd.R_alloc | apply Kd.R_drewN | apply Kd.R_drew)); exact HO_5.out) hb)
                              have n1_ := Aside0.mk (blk_below (g := gb204) (o := .cells #[.int .i64 x6_1, .int .i64 a1, .int .i64 (wrap64 ((wrap64 (t201 * 86400)) + ((rd_T42 l0 x6_1).f5.f0))), .int .i64 0] 47 (0, 0)) (by (with_reducible repeat (first | refine blk_drewN ?_ _ | refine blk_drew ?_ | refine blk_alloc ?_ _)); exact BK204.out) hb)
                              have n2_ := Aside0.mk (below_step (by repeat (first | (with_reducible first | exact HB.out | apply below_alloc | apply pw_below_drewN | apply below_drew1 | refine below_set ?_ GE204.out) | exact HB.out)) hb)
                              clear HO_5
                              clear BK204
                              clear HB
                              have HO_5 := n0_
                              have BK204 := n1_
                              have HB := n2_
                              clear n0_ n1_ n2_
                              (try clear hb)
                              (try clear hb2)
                              (try clear hk)
                              (try clear hi)
                              refine hK.out _ _ ⟨(blk_cell BK204.out 0).trans rfl, (blk_cell BK204.out 1).trans rfl, (blk_cell BK204.out 2).trans rfl, (blk_cell BK204.out 3).trans rfl, HS4_, HS5_, HS6_, HS7_⟩ (fun hHeld => ?_)
                              clear hK K
                              refine norm_ (a' := ?_) ?_ ?_
                              rotate_left
                              · show Act.put _ (some 80) _ = _
                                simp only [Act.put, List.setIfInBounds_toArray, List.set_cons_zero, List.set_cons_succ, i64_w, i32_w]
                                rfl
                              refine pure_ (i := 11) (N := some 81) (v := ?_) (a' := ?_) #[true, true, true, true, true, true, true, true, true, true, true, true] rfl rfl (any_of HT_.out (by kernel_rfl)) (fun _ _ _ h => h) (Or.inl ⟨by rfl, ?_⟩) ?_ ?_
                              rotate_left
                              · intro w'
                                go_simp
                                with_reducible rfl
                              rotate_left
                              · simp only [Act.put, List.setIfInBounds_toArray, List.set_cons_zero, List.set_cons_succ, i64_w, i32_w]
                                rfl
                              refine done_ (done_of HT_.out (by kernel_rfl)) ?_
                              try go_wp2
                              go_roundg k3
                              case measure => have := HK1.out; have := HJ3.out; have := HK3.out; omega
                              case rel => exact ⟨(wrap64 (x10_3 + 1)), (by first | rfl | (simp; done) | (simp [*]; done)), H', ⟨by have := HK1.out; have := HJ3.out; have := HK3.out; omega⟩, ⟨by (with_reducible repeat (first | apply Kd.R_alloc | apply Kd.R_drewN | apply Kd.R_drew)); exact HO_5.out⟩, ⟨by (with_reducible repeat (first | refine blk_drewN ?_ _ | refine blk_drew ?_ | refine blk_alloc ?_ _)); exact BK204.out⟩, ⟨by repeat (first | (with_reducible first | exact HB.out | apply below_alloc | apply pw_below_drewN | apply below_drew1 | refine below_set ?_ GE204.out) | exact HB.out)⟩⟩
                            · replace c21 := Bool.eq_false_iff.mpr c21
                              subst c21
                              have H1 : (if x5_1.length < 4398046511104 then (noonmarkref14_year.l0 k3 l0 a1 (insE x5_1 x10_3 (⟨x6_1, a1, (wrap64 ((wrap64 (t201 * 86400)) + ((rd_T42 l0 x6_1).f5.f0))), 0⟩ : S47)) (wrap64 (x6_1 + 1))) else (none)) = some r := by rw [if_neg (show ¬ (false = true) by decide)] at H; exact H
                              clear H
                              have H := H1
                              clear H1
                              by_cases c25 : x5_1.length < 4398046511104
                              · rw [if_pos c25] at H
                                have LMc25 := Aside0.mk c25
                                clear c25
                                obtain ⟨y207, hy207⟩ : ∃ y_ : List (S47), y_ = (insE x5_1 x10_3 (⟨x6_1, a1, (wrap64 ((wrap64 (t201 * 86400)) + ((rd_T42 l0 x6_1).f5.f0))), 0⟩ : S47)) := ⟨_, rfl⟩
                                replace H : (noonmarkref14_year.l0 k3 l0 a1 y207 (wrap64 (x6_1 + 1))) = some r := by first | (rw [hy207]; with_reducible exact H) | (have H2_ := (Option.bind_some _ _).symm.trans H; rw [hy207]; with_reducible exact H2_) | (have H2_ := (Option.bind_some _ _).symm.trans H; with_reducible exact H2_) | with_reducible exact H | (rw [hy207]; exact H) | exact H
                                have Ny207 := Aside0.mk hy207
                                clear hy207
                                have H' := Aside0.mk H
                                clear H
                                try go_wp2
                                have n0_ := Aside0.mk (Kd.R_drew HO_5.out)
                                have n1_ := Aside0.mk (blk_drew BK204.out)
                                have n2_ := Aside0.mk (below_drew1 HB.out)
                                clear HO_5
                                clear BK204
                                clear HB
                                have HO_5 := n0_
                                have BK204 := n1_
                                have HB := n2_
                                clear n0_ n1_ n2_
                                obtain ⟨Ao27, co27, eo27⟩ := Kd.R_slice HO_5.out
                                (first | subst eo27 | (injection eo27 with f1_ f2_ f3_; have f4_ := f1_.symm; have f5_ := f3_.symm; clear f1_ f2_ f3_; subst f4_; subst f5_))
                                have p205 : 0 ≤ (x10_3 : Int) := of_decide_eq_true (by first | (with_reducible assumption) | assumption)
                                have q205 : x10_3 < (x5_1.length : Int) := of_decide_eq_true (by first | (with_reducible assumption) | assumption)
                                obtain ⟨ad205, e205, hx205_0, hx205_1, hx205_2, hx205_3⟩ := at_T47 (Kd.R_reads' HO_5.out).2.2 x10_3 p205 q205
                                cases e205
                                replace p205 := eq_true p205
                                replace q205 := eq_true q205
                                refine start_ (n := 12) (S := fun w' => w'.cell? ⟨gb204, 0, none⟩ = some (.int .i64 x6_1) ∧ w'.cell? ⟨gb204, 1, none⟩ = some (.int .i64 a1) ∧ w'.cell? ⟨gb204, 2, none⟩ = some (.int .i64 (wrap64 ((wrap64 (t201 * 86400)) + ((rd_T42 l0 x6_1).f5.f0)))) ∧ w'.cell? ⟨gb204, 3, none⟩ = some (.int .i64 0) ∧ w'.cell? (ad205.add ((x10_3).toNat * 4)) = some (.int .i64 ((rd_T47 x5_1 x10_3).f0)) ∧ w'.cell? ⟨(ad205.add ((x10_3).toNat * 4)).block, (ad205.add ((x10_3).toNat * 4)).off + 1, none⟩ = some (.int .i64 ((rd_T47 x5_1 x10_3).f1)) ∧ w'.cell? ⟨(ad205.add ((x10_3).toNat * 4)).block, (ad205.add ((x10_3).toNat * 4)).off + 2, none⟩ = some (.int .i64 ((rd_T47 x5_1 x10_3).f2)) ∧ w'.cell? ⟨(ad205.add ((x10_3).toNat * 4)).block, (ad205.add ((x10_3).toNat * 4)).off + 3, none⟩ = some (.int .i64 ((rd_T47 x5_1 x10_3).f3))) (ds := []) #[false, false, false, false, false, false, false, false, false, false, false, false] (by kernel_rfl) rfl rfl ⟨(blk_cell BK204.out 0).trans rfl, (blk_cell BK204.out 1).trans rfl, (blk_cell BK204.out 2).trans rfl, (blk_cell BK204.out 3).trans rfl, hx205_0, hx205_1, hx205_2, hx205_3⟩ (fun hHeld => ?_); refine with_tabW noonmarkref14_year.tab10 noonmarkref14_year.bits10 (fun HT_ HW_ => ?_)
                                generalize wr.drew = w26 at HO_5 BK204 HB hx205_0 hx205_1 hx205_2 hx205_3 hHeld ⊢
                                refine pure_ (i := 0) (N := some 70) (v := ?_) (a' := ?_) #[true, false, false, false, false, false, false, false, false, false, false, false] rfl rfl (any_of HT_.out (by kernel_rfl)) (fun _ _ _ h => h) (Or.inl ⟨by rfl, ?_⟩) ?_ ?_
                                rotate_left
                                · intro w'
                                  go_simp
                                  with_reducible rfl
                                rotate_left
                                · simp only [Act.put, List.setIfInBounds_toArray, List.set_cons_zero, List.set_cons_succ, i64_w, i32_w]
                                  rfl
                                refine pure_ (i := 1) (N := some 71) (v := ?_) (a' := ?_) #[true, true, false, false, false, false, false, false, false, false, false, false] rfl rfl (any_of HT_.out (by kernel_rfl)) (fun _ _ _ h => h) (Or.inl ⟨by rfl, ?_⟩) ?_ ?_
                                rotate_left
                                · intro w'
                                  go_simp
                                  with_reducible rfl
                                rotate_left
                                · simp only [Act.put, List.setIfInBounds_toArray, List.set_cons_zero, List.set_cons_succ, i64_w, i32_w]
                                  rfl
                                refine pure_ (i := 2) (N := some 72) (v := ?_) (a' := ?_) #[true, true, true, false, false, false, false, false, false, false, false, false] rfl rfl (any_of HT_.out (by kernel_rfl)) (fun _ _ _ h => h) (Or.inl ⟨by rfl, ?_⟩) ?_ ?_
                                rotate_left
                                · intro w'
                                  go_simp
                                  with_reducible rfl
                                rotate_left
                                · simp only [Act.put, List.setIfInBounds_toArray, List.set_cons_zero, List.set_cons_succ, i64_w, i32_w]
                                  rfl
                                refine pure_ (i := 3) (N := some 73) (v := ?_) (a' := ?_) #[true, true, true, true, false, false, false, false, false, false, false, false] rfl rfl (any_of HT_.out (by kernel_rfl)) (fun _ _ _ h => h) (Or.inl ⟨by rfl, ?_⟩) ?_ ?_
                                rotate_left
                                · intro w'
                                  go_simp
                                  with_reducible rfl
                                rotate_left
                                · simp only [Act.put, List.setIfInBounds_toArray, List.set_cons_zero, List.set_cons_succ, i64_w, i32_w]
                                  rfl
                                refine pure_ (i := 4) (N := some 74) (v := ?_) (a' := ?_) #[true, true, true, true, true, false, false, false, false, false, false, false] rfl rfl (any_of HT_.out (by kernel_rfl)) (fun _ _ _ h => h) (Or.inl ⟨by rfl, ?_⟩) ?_ ?_
                                rotate_left
                                · intro w'
                                  go_simp
                                  with_reducible rfl
                                rotate_left
                                · simp only [Act.put, List.setIfInBounds_toArray, List.set_cons_zero, List.set_cons_succ, i64_w, i32_w]
                                  rfl
                                refine pure_ (i := 5) (N := some 75) (v := ?_) (a' := ?_) #[true, true, true, true, true, true, false, false, false, false, false, false] rfl rfl (any_of HT_.out (by kernel_rfl)) (fun _ _ _ h => h) (Or.inl ⟨by rfl, ?_⟩) ?_ ?_
                                rotate_left
                                · intro w'
                                  go_simp
                                  with_reducible rfl
                                rotate_left
                                · simp only [Act.put, List.setIfInBounds_toArray, List.set_cons_zero, List.set_cons_succ, i64_w, i32_w]
                                  rfl
                                refine pure_ (i := 6) (N := some 76) (v := ?_) (a' := ?_) #[true, true, true, true, true, true, true, false, false, false, false, false] rfl rfl (any_of HT_.out (by kernel_rfl)) (fun _ _ _ h => h) (Or.inl ⟨by rfl, ?_⟩) ?_ ?_
                                rotate_left
                                · intro w'
                                  go_simp
                                  with_reducible rfl
                                rotate_left
                                · simp only [Act.put, List.setIfInBounds_toArray, List.set_cons_zero, List.set_cons_succ, i64_w, i32_w]
                                  rfl
                                refine pure_ (i := 7) (N := some 77) (v := ?_) (a' := ?_) #[true, true, true, true, true, true, true, true, false, false, false, false] rfl rfl (any_of HT_.out (by kernel_rfl)) (fun _ _ _ h => h) (Or.inl ⟨by rfl, ?_⟩) ?_ ?_
                                rotate_left
                                · intro w'
                                  go_simp
                                  with_reducible rfl
                                rotate_left
                                · simp only [Act.put, List.setIfInBounds_toArray, List.set_cons_zero, List.set_cons_succ, i64_w, i32_w]
                                  rfl
                                refine take_ (i := 8) (N := some 78) (v := ?_) (a' := ?_) #[true, true, true, true, true, true, true, true, true, false, false, false] rfl rfl (take_ofW HT_.out HW_.out (by kernel_rfl)) (fun _ _ _ h => h) (Or.inl ⟨by rfl, ?_⟩) hHeld ?_ ?_
                                rotate_left
                                · rintro w' ⟨s0, s1, s2, s3, s4, s5, s6, s7⟩
                                  go_simp
                                  with_reducible rfl
                                rotate_left
                                · simp only [Act.put, List.setIfInBounds_toArray, List.set_cons_zero, List.set_cons_succ, i64_w, i32_w]
                                  rfl
                                refine take_ (i := 9) (N := some 79) (v := ?_) (a' := ?_) #[true, true, true, true, true, true, true, true, true, true, false, false] rfl rfl (take_ofW HT_.out HW_.out (by kernel_rfl)) (fun _ _ _ h => h) (Or.inl ⟨by rfl, ?_⟩) hHeld ?_ ?_
                                rotate_left
                                · rintro w' ⟨s0, s1, s2, s3, s4, s5, s6, s7⟩
                                  go_simp
                                  with_reducible rfl
                                rotate_left
                                · simp only [Act.put, List.setIfInBounds_toArray, List.set_cons_zero, List.set_cons_succ, i64_w, i32_w]
                                  rfl
                                refine one_ (i := 10) (N := some 80) #[true, true, true, true, true, true, true, true, true, true, true, false] rfl rfl (one_of HT_.out (by kernel_rfl)) (by decide) (fun K hK => ?_)
                                refine goes_ Try.func37 (by kernel_rfl) rfl #[.agg #[.int .i64 ((rd_T47 x5_1 x10_3).f0), .int .i64 ((rd_T47 x5_1 x10_3).f1), .int .i64 ((rd_T47 x5_1 x10_3).f2), .int .i64 ((rd_T47 x5_1 x10_3).f3)], .agg #[.int .i64 x6_1, .int .i64 a1, .int .i64 (wrap64 ((wrap64 (t201 * 86400)) + ((rd_T42 l0 x6_1).f5.f0))), .int .i64 0]] (by rfl) rfl rfl (by (try simp only [List.map_toArray, List.map_cons, List.map_nil]); first | done | rfl | (simp only [List.length_drop, List.length_take]; rfl)) ?_
                                with_reducible refine (noonmarkref14_before.calls ((rd_T47 x5_1 x10_3).f0) ((rd_T47 x5_1 x10_3).f1) ((rd_T47 x5_1 x10_3).f2) ((rd_T47 x5_1 x10_3).f3) x6_1 a1 (wrap64 ((wrap64 (t201 * 86400)) + ((rd_T42 l0 x6_1).f5.f0))) 0 false _ A20.out).mono ?_
                                rintro e w28 ⟨rfl, hb⟩
                                have HS4_ := (hb.cell (World.block_lt_of_cell? _ _ (hHeld.2.2.2.2.1))).trans (hHeld.2.2.2.2.1)
                                have HS5_ := (hb.cell (World.block_lt_of_cell? _ _ (hHeld.2.2.2.2.2.1))).trans (hHeld.2.2.2.2.2.1)
                                have HS6_ := (hb.cell (World.block_lt_of_cell? _ _ (hHeld.2.2.2.2.2.2.1))).trans (hHeld.2.2.2.2.2.2.1)
                                have HS7_ := (hb.cell (World.block_lt_of_cell? _ _ (hHeld.2.2.2.2.2.2.2))).trans (hHeld.2.2.2.2.2.2.2)
                                refine ⟨_, rfl, ?_⟩
                                have n0_ := Aside0.mk (Kd.R_below (by (with_reducible repeat (first | apply Kd.R_alloc | apply Kd.R_drewN | apply Kd.R_drew)); exact HO_5.out) hb)
                                have n1_ := Aside0.mk (blk_below (g := gb204) (o := .cells #[.int .i64 x6_1, .int .i64 a1, .int .i64 (wrap64 ((wrap64 (t201 * 86400)) + ((rd_T42 l0 x6_1).f5.f0))), .int .i64 0] 47 (0, 0)) (by (with_reducible repeat (first | refine blk_drewN ?_ _ | refine blk_drew ?_ | refine blk_alloc ?_ _)); exact BK204.out) hb)
                                have n2_ := Aside0.mk (below_step (by repeat (first | (with_reducible first | exact HB.out | apply below_alloc | apply pw_below_drewN | apply below_drew1 | refine below_set ?_ GE204.out) | exact HB.out)) hb)
                                clear HO_5
                                clear BK204
                                clear HB
                                have HO_5 := n0_
                                have BK204 := n1_
                                have HB := n2_
                                clear n0_ n1_ n2_
                                (try clear hb)
                                (try clear hb2)
                                (try clear hk)
                                (try clear hi)
                                refine hK.out _ _ ⟨(blk_cell BK204.out 0).trans rfl, (blk_cell BK204.out 1).trans rfl, (blk_cell BK204.out 2).trans rfl, (blk_cell BK204.out 3).trans rfl, HS4_, HS5_, HS6_, HS7_⟩ (fun hHeld => ?_)
                                clear hK K
                                refine norm_ (a' := ?_) ?_ ?_
                                rotate_left
                                · show Act.put _ (some 80) _ = _
                                  simp only [Act.put, List.setIfInBounds_toArray, List.set_cons_zero, List.set_cons_succ, i64_w, i32_w]
                                  rfl
                                refine pure_ (i := 11) (N := some 81) (v := ?_) (a' := ?_) #[true, true, true, true, true, true, true, true, true, true, true, true] rfl rfl (any_of HT_.out (by kernel_rfl)) (fun _ _ _ h => h) (Or.inl ⟨by rfl, ?_⟩) ?_ ?_
                                rotate_left
                                · intro w'
                                  go_simp
                                  with_reducible rfl
                                rotate_left
                                · simp only [Act.put, List.setIfInBounds_toArray, List.set_cons_zero, List.set_cons_succ, i64_w, i32_w]
                                  rfl
                                refine done_ (done_of HT_.out (by kernel_rfl)) ?_
                                try go_wp2
                                have n0_ := Aside0.mk (Kd.R_drew HO_5.out)
                                have n1_ := Aside0.mk (blk_drew BK204.out)
                                have n2_ := Aside0.mk (below_drew1 HB.out)
                                clear HO_5
                                clear BK204
                                clear HB
                                have HO_5 := n0_
                                have BK204 := n1_
                                have HB := n2_
                                clear n0_ n1_ n2_
                                have hx10 : (0 : Int) ≤ x10_3 ∧ x10_3 ≤ (x5_1.length : Int) := ⟨of_decide_eq_true c19b0, Int.le_of_lt (of_decide_eq_true c18b0)⟩
                                obtain ⟨t_, ht_⟩ : ∃ t_ : Nat, x10_3 = (t_ : Int) := ⟨x10_3.toNat, by have := hx10.1; omega⟩
                                have htn : t_ ≤ x5_1.length := by have := hx10.2; omega
                                have RD_ := Kd.R_reads' HO_5.out
                                have hnc : x5_1.length ≤ co27 := RD_.2.1
                                have hC5 := RD_.2.2
                                clear RD_
                                obtain ⟨AD, hAD⟩ : ∃ AD : Option Addr, AD = (if co27 = t_ then (some ad205) else ((some ad205) : Option Addr).map (·.add (t_ * 4))) := ⟨_, rfl⟩
                                have htk : ∀ W', (Instr.slice 26 (.slice (some ad205) x5_1.length co27) none (some (.int .i64 x10_3)) none).run Try.prog W' = .ok (.slice (some ad205) t_ co27) W' := fun W' => by rw [ht_]; exact take26 _ _ _ _ htn hnc W'
                                have hdp : ∀ W', (Instr.slice 26 (.slice (some ad205) x5_1.length co27) (some (.int .i64 x10_3)) none none).run Try.prog W' = .ok (.slice AD (x5_1.length - t_) (co27 - t_)) W' := fun W' => by rw [ht_, hAD]; exact drop26 _ _ _ _ htn hnc W'
                                have CT : Aside0 (∀ W', Below (w28.drew).heap.size w28.drew W' → Kd.C k47 W' (some ad205) t_ (x5_1.take t_)) := ⟨fun W' hb => by have h := Kd.C_take (m := t_) (Kd.C_below hC5 hb) htn; rwa [List.length_take_of_le htn] at h⟩
                                have CD : Aside0 (∀ W', Below (w28.drew).heap.size w28.drew W' → Kd.C k47 W' AD (x5_1.length - t_) (x5_1.drop t_)) := ⟨fun W' hb => by have h := Kd.C_drop (m := t_) (Kd.C_below hC5 hb) htn hnc; rw [List.length_drop] at h; rw [hAD]; exact h⟩
                                have HTN := Aside0.mk htn
                                have HYI := Aside0.mk (show insE x5_1 x10_3 (⟨x6_1, a1, (wrap64 ((wrap64 (t201 * 86400)) + ((rd_T42 l0 x6_1).f5.f0))), 0⟩ : S47) = x5_1.take t_ ++ [(⟨x6_1, a1, (wrap64 ((wrap64 (t201 * 86400)) + ((rd_T42 l0 x6_1).f5.f0))), 0⟩ : S47)] ++ x5_1.drop t_ from by rw [ht_]; rfl)
                                clear ht_ htn hnc hC5 hAD hx10
                                have HQ0 := Aside0.mk (Below.refl (w28.drew).heap.size w28.drew)
                                have HS : Aside0 (∀ w', Below (w28.drew).heap.size w28.drew w' → (w'.cell? ⟨gb204, 0, none⟩ = some (.int .i64 x6_1) ∧ w'.cell? ⟨gb204, 1, none⟩ = some (.int .i64 a1) ∧ w'.cell? ⟨gb204, 2, none⟩ = some (.int .i64 (wrap64 ((wrap64 (t201 * 86400)) + ((rd_T42 l0 x6_1).f5.f0)))) ∧ w'.cell? ⟨gb204, 3, none⟩ = some (.int .i64 0))) := ⟨fun w' hb => ⟨(blk_cell (blk_below BK204.out hb) 0).trans rfl, (blk_cell (blk_below BK204.out hb) 1).trans rfl, (blk_cell (blk_below BK204.out hb) 2).trans rfl, (blk_cell (blk_below BK204.out hb) 3).trans rfl⟩⟩
                                refine start_ (n := 13) (S := fun w' => w'.cell? ⟨gb204, 0, none⟩ = some (.int .i64 x6_1) ∧ w'.cell? ⟨gb204, 1, none⟩ = some (.int .i64 a1) ∧ w'.cell? ⟨gb204, 2, none⟩ = some (.int .i64 (wrap64 ((wrap64 (t201 * 86400)) + ((rd_T42 l0 x6_1).f5.f0)))) ∧ w'.cell? ⟨gb204, 3, none⟩ = some (.int .i64 0)) (ds := []) #[false, false, false, false, false, false, false, false, false, false, false, false, false] (by kernel_rfl) rfl rfl (HS.out _ HQ0.out) (fun hHeld => ?_)
                                generalize w28.drew = wq at HO_5 BK204 HB CT CD HQ0 HS hHeld ⊢
                                refine pure_ (i := 1) (N := some 85) (v := ?_) (a' := ?_) #[false, true, false, false, false, false, false, false, false, false, false, false, false] rfl rfl (by kernel_rfl) (fun _ _ _ h => h) (Or.inl ⟨by rfl, ?_⟩) ?_ ?_
                                rotate_left
                                · intro w'
                                  go_simp
                                  with_reducible rfl
                                rotate_left
                                · simp only [Act.put, List.setIfInBounds_toArray, List.set_cons_zero, List.set_cons_succ, i64_w, i32_w]
                                  rfl
                                refine pure_ (i := 2) (N := some 86) (v := ?_) (a' := ?_) #[false, true, true, false, false, false, false, false, false, false, false, false, false] rfl rfl (by kernel_rfl) (fun _ _ _ h => h) (Or.inl ⟨by rfl, ?_⟩) ?_ ?_
                                rotate_left
                                · intro w'
                                  go_simp
                                  with_reducible rfl
                                rotate_left
                                · simp only [Act.put, List.setIfInBounds_toArray, List.set_cons_zero, List.set_cons_succ, i64_w, i32_w]
                                  rfl
                                refine pure_ (i := 3) (N := some 87) (v := ?_) (a' := ?_) #[false, true, true, true, false, false, false, false, false, false, false, false, false] rfl rfl (by kernel_rfl) (fun _ _ _ h => h) (Or.inl ⟨by rfl, ?_⟩) ?_ ?_
                                rotate_left
                                · intro w'
                                  go_simp
                                  with_reducible rfl
                                rotate_left
                                · simp only [Act.put, List.setIfInBounds_toArray, List.set_cons_zero, List.set_cons_succ, i64_w, i32_w]
                                  rfl
                                refine pure_ (i := 8) (N := some 92) (v := ?_) (a' := ?_) #[false, true, true, true, false, false, false, false, true, false, false, false, false] rfl rfl (by kernel_rfl) (fun _ _ _ h => h) (Or.inl ⟨by rfl, ?_⟩) ?_ ?_
                                rotate_left
                                · intro w'
                                  go_simp
                                  with_reducible rfl
                                rotate_left
                                · simp only [Act.put, List.setIfInBounds_toArray, List.set_cons_zero, List.set_cons_succ, i64_w, i32_w]
                                  rfl
                                refine pure_ (i := 9) (N := some 93) (v := ?_) (a' := ?_) #[false, true, true, true, false, false, false, false, true, true, false, false, false] rfl rfl (by kernel_rfl) (fun _ _ _ h => h) (Or.inl ⟨by rfl, ?_⟩) ?_ ?_
                                rotate_left
                                · intro w'
                                  go_simp
                                  with_reducible rfl
                                rotate_left
                                · simp only [Act.put, List.setIfInBounds_toArray, List.set_cons_zero, List.set_cons_succ, i64_w, i32_w]
                                  rfl
                                refine pure_ (i := 10) (N := some 94) (v := ?_) (a' := ?_) #[false, true, true, true, false, false, false, false, true, true, true, false, false] rfl rfl (by kernel_rfl) (fun _ _ _ h => h) (Or.inl ⟨by rfl, ?_⟩) ?_ ?_
                                rotate_left
                                · intro w'
                                  go_simp
                                  with_reducible rfl
                                rotate_left
                                · simp only [Act.put, List.setIfInBounds_toArray, List.set_cons_zero, List.set_cons_succ, i64_w, i32_w]
                                  rfl
                                refine take_ (i := 5) (N := some 89) (v := ?_) (a' := ?_) #[false, true, true, true, false, true, false, false, true, true, true, false, false] rfl rfl (by kernel_rfl) (fun _ _ _ h => h) (Or.inl ⟨by rfl, ?_⟩) hHeld ?_ ?_
                                rotate_left
                                · rintro w' ⟨s0, s1, s2, s3⟩
                                  go_simp
                                  with_reducible rfl
                                rotate_left
                                · simp only [Act.put, List.setIfInBounds_toArray, List.set_cons_zero, List.set_cons_succ, i64_w, i32_w]
                                  rfl
                                clear htk hdp
                                refine join_ (σ := Value × Value × Value) 3 #[true, true, true, true, true, true, true, false, true, true, true, false, false] (fun s_ => [(84, s_.1), (88, s_.2.1), (90, s_.2.2)]) (fun s_ w' => (w'.cell? ⟨gb204, 0, none⟩ = some (.int .i64 x6_1) ∧ w'.cell? ⟨gb204, 1, none⟩ = some (.int .i64 a1) ∧ w'.cell? ⟨gb204, 2, none⟩ = some (.int .i64 (wrap64 ((wrap64 (t201 * 86400)) + ((rd_T42 l0 x6_1).f5.f0)))) ∧ w'.cell? ⟨gb204, 3, none⟩ = some (.int .i64 0)) ∧ (Kd.R k47 47 w' wq.heap.size (fun _ => True) s_.2.1 (x5_1.take t_)) ∧ (Kd.R k47 47 w' wq.heap.size (fun k => True ∧ some k ≠ (s_.2.1 : Value).ownBlock) s_.2.2 [(⟨x6_1, a1, (wrap64 ((wrap64 (t201 * 86400)) + ((rd_T42 l0 x6_1).f5.f0))), 0⟩ : S47)]) ∧ (Below wq.heap.size wq w')) ?_ ?_
                                rotate_left
                                · intro hCont
                                  refine two_ (i := 0) (j := 6) (Ni := some 84) (Nj := some 90) #[true, true, true, true, false, true, false, false, true, true, true, false, false] #[false, true, true, true, false, true, true, false, true, true, true, false, false] rfl rfl rfl rfl (by kernel_rfl) (by decide) (by decide) (fun K hK => ?_) (fun K hK => ?_)
                                  · skip
                                    refine Kd.R_lit_step k47 _ 47 ?hg (N := 84) ?hd (xs := ([] : List S47)) (inner := ([] : List Value)) (ok := fun _ => True) (okp := fun _ => True) ?hr ?hp (fun _ hk => hk) trivial (Below.refl _ _) (Nat.le_refl _) (by simp) ?_; (case hd => rfl); (case hg => rfl); (case hr => first | (go_simp; done) | (go_simp; rfl)); (case hp => exact Reps.none _ _)
                                    intro v84 w1q ho hb hg_ hnew_
                                    clear hg_ hnew_
                                    have NA1 := Aside0.mk (Kd.R_lower ho HQ0.out.size)
                                    have HQ1 := Aside0.mk (below_step HQ0.out hb)
                                    clear ho hb
                                    refine hK.out _ _ (HS.out _ HQ1.out) (fun hHeld => ?_)
                                    clear hK K
                                    refine norm_ (a' := ?_) ?_ ?_
                                    rotate_left
                                    · show Act.put _ (some 84) _ = _
                                      simp only [Act.put, List.setIfInBounds_toArray, List.set_cons_zero, List.set_cons_succ, i64_w, i32_w]
                                      rfl
                                    refine two_ (i := 4) (j := 6) (Ni := some 88) (Nj := some 90) #[true, true, true, true, true, true, false, false, true, true, true, false, false] #[true, true, true, true, false, true, true, false, true, true, true, false, false] rfl rfl rfl rfl (by kernel_rfl) (by decide) (by decide) (fun K hK => ?_) (fun K hK => ?_)
                                    · skip
                                      refine Kd.R_append_rows_step k47 (w0 := wq) wq.heap.size (by rfl) (.tmp 84) (.tmp 87) 26 47 (.agg #[(.int .i64 0), (.int .i64 0), (.int .i64 0), (.int .i64 0)]) 32 rfl Try.underlying26 info47 rfl (by decide) (by decide) v84 [] (x5_1.take t_) (some ad205) t_ co27 (fun _ => True) (fun _ => False) rfl rfl NA1.out (CT.out _ HQ1.out) (fun _ _ h => by rw [k47_open h]; exact k47_mkM _ _ _ _) (fun _ h => h.elim) (fun _ _ => trivial) HQ1.out HQ1.out.size (by have h1_ := LMc25.out; have h2_ := HTN.out; simp; omega) ?_
                                      intro v88 w2q ho hb hg hat
                                      rw [List.nil_append] at ho
                                      have NA2 := Aside0.mk ho
                                      have HQ2 := Aside0.mk hb
                                      clear ho hb hg hat
                                      refine hK.out _ _ (HS.out _ HQ2.out) (fun hHeld => ?_)
                                      clear hK K
                                      refine norm_ (a' := ?_) ?_ ?_
                                      rotate_left
                                      · show Act.put _ (some 88) _ = _
                                        simp only [Act.put, List.setIfInBounds_toArray, List.set_cons_zero, List.set_cons_succ, i64_w, i32_w]
                                        rfl
                                      refine one_ (i := 6) (N := some 90) #[true, true, true, true, true, true, true, false, true, true, true, false, false] rfl rfl (by kernel_rfl) (by decide) (fun K hK => ?_)
                                      refine Kd.R_lit_step k47 _ 47 ?hg (N := 90) ?hd (xs := [(⟨x6_1, a1, (wrap64 ((wrap64 (t201 * 86400)) + ((rd_T42 l0 x6_1).f5.f0))), 0⟩ : S47)]) (inner := [.int .i64 x6_1, .int .i64 a1, .int .i64 (wrap64 ((wrap64 (t201 * 86400)) + ((rd_T42 l0 x6_1).f5.f0))), .int .i64 0]) (ok := fun _ => True) (okp := fun _ => True) ?hr ?hp (fun _ hk => hk) trivial (Below.refl _ _) (Nat.le_refl _) (by simp) ?_; (case hd => rfl); (case hg => rfl); (case hr => first | (go_simp; done) | (go_simp; rfl)); (case hp => exact reps_one47 _ _ _ (⟨x6_1, a1, (wrap64 ((wrap64 (t201 * 86400)) + ((rd_T42 l0 x6_1).f5.f0))), 0⟩ : S47))
                                      intro v90 w3q ho hb hg_ hnew_
                                      clear hg_ hnew_
                                      have NL3 := Aside0.mk (Kd.R_lower (Kd.R_new' ho (Kd.R_lt NA2.out)) HQ2.out.size)
                                      have NA3 := Aside0.mk (Kd.R_elder' NA2.out (Kd.R_base ho) hb)
                                      have HQ3 := Aside0.mk (below_step HQ2.out hb)
                                      clear ho hb
                                      refine hK.out _ _ (HS.out _ HQ3.out) (fun hHeld => ?_)
                                      clear hK K
                                      refine norm_ (a' := ?_) ?_ ?_
                                      rotate_left
                                      · show Act.put _ (some 90) _ = _
                                        simp only [Act.put, List.setIfInBounds_toArray, List.set_cons_zero, List.set_cons_succ, i64_w, i32_w]
                                        rfl
                                      exact norm_ (by simp only [putAll, Act.put, List.setIfInBounds_toArray, List.set_cons_zero, List.set_cons_succ]) (hCont (v84, v88, v90) _ ⟨hHeld, Kd.R_mono NA3.out (fun _ _ => trivial), NL3.out, HQ3.out⟩)
                                    · skip
                                      refine Kd.R_lit_step k47 _ 47 ?hg (N := 90) ?hd (xs := [(⟨x6_1, a1, (wrap64 ((wrap64 (t201 * 86400)) + ((rd_T42 l0 x6_1).f5.f0))), 0⟩ : S47)]) (inner := [.int .i64 x6_1, .int .i64 a1, .int .i64 (wrap64 ((wrap64 (t201 * 86400)) + ((rd_T42 l0 x6_1).f5.f0))), .int .i64 0]) (ok := fun _ => True) (okp := fun _ => True) ?hr ?hp (fun _ hk => hk) trivial (Below.refl _ _) (Nat.le_refl _) (by simp) ?_; (case hd => rfl); (case hg => rfl); (case hr => first | (go_simp; done) | (go_simp; rfl)); (case hp => exact reps_one47 _ _ _ (⟨x6_1, a1, (wrap64 ((wrap64 (t201 * 86400)) + ((rd_T42 l0 x6_1).f5.f0))), 0⟩ : S47))
                                      intro v90 w2q ho hb hg_ hnew_
                                      clear hg_ hnew_
                                      have NL2 := Aside0.mk (Kd.R_lower (Kd.R_new' ho (Kd.R_lt NA1.out)) HQ1.out.size)
                                      have NA2 := Aside0.mk (Kd.R_elder' NA1.out (Kd.R_base ho) hb)
                                      have HQ2 := Aside0.mk (below_step HQ1.out hb)
                                      clear ho hb
                                      refine hK.out _ _ (HS.out _ HQ2.out) (fun hHeld => ?_)
                                      clear hK K
                                      refine norm_ (a' := ?_) ?_ ?_
                                      rotate_left
                                      · show Act.put _ (some 90) _ = _
                                        simp only [Act.put, List.setIfInBounds_toArray, List.set_cons_zero, List.set_cons_succ, i64_w, i32_w]
                                        rfl
                                      refine one_ (i := 4) (N := some 88) #[true, true, true, true, true, true, true, false, true, true, true, false, false] rfl rfl (by kernel_rfl) (by decide) (fun K hK => ?_)
                                      refine Kd.R_append_rows_step k47 (w0 := wq) wq.heap.size (by rfl) (.tmp 84) (.tmp 87) 26 47 (.agg #[(.int .i64 0), (.int .i64 0), (.int .i64 0), (.int .i64 0)]) 32 rfl Try.underlying26 info47 rfl (by decide) (by decide) v84 [] (x5_1.take t_) (some ad205) t_ co27 (fun k => True ∧ some k ≠ (v90 : Value).ownBlock) (fun _ => False) rfl rfl NA2.out (CT.out _ HQ2.out) (fun _ _ h => by rw [k47_open h]; exact k47_mkM _ _ _ _) (fun _ h => h.elim) (fun k hk => ⟨trivial, Kd.fresh' (Kd.R_lt NL2.out) k hk⟩) HQ2.out HQ2.out.size (by have h1_ := LMc25.out; have h2_ := HTN.out; simp; omega) ?_
                                      intro v88 w3q ho hb hg hat
                                      rw [List.nil_append] at ho
                                      have NA3 := Aside0.mk ho
                                      have HQ3 := Aside0.mk hb
                                      have NL3 := Aside0.mk (Kd.R_mono (ok' := fun k => True ∧ some k ≠ (v88 : Value).ownBlock) (Kd.R_grown (Kd.R_bound NL2.out) hg (fun k hk => hk.1.2)) (fun k hk => ⟨trivial, fun he => by rcases hat with e9 | ⟨b9, e9, h9⟩; (exact hk.1.2 (he.trans e9)); (have e7 : k = b9 := Option.some.inj (he.trans e9); have h8 := hk.2.2.1; omega)⟩))
                                      clear ho hb hg hat
                                      refine hK.out _ _ (HS.out _ HQ3.out) (fun hHeld => ?_)
                                      clear hK K
                                      refine norm_ (a' := ?_) ?_ ?_
                                      rotate_left
                                      · show Act.put _ (some 88) _ = _
                                        simp only [Act.put, List.setIfInBounds_toArray, List.set_cons_zero, List.set_cons_succ, i64_w, i32_w]
                                        rfl
                                      exact norm_ (by simp only [putAll, Act.put, List.setIfInBounds_toArray, List.set_cons_zero, List.set_cons_succ]) (hCont (v84, v88, v90) _ ⟨hHeld, Kd.R_mono NA3.out (fun _ _ => trivial), NL3.out, HQ3.out⟩)
                                  · skip
                                    refine Kd.R_lit_step k47 _ 47 ?hg (N := 90) ?hd (xs := [(⟨x6_1, a1, (wrap64 ((wrap64 (t201 * 86400)) + ((rd_T42 l0 x6_1).f5.f0))), 0⟩ : S47)]) (inner := [.int .i64 x6_1, .int .i64 a1, .int .i64 (wrap64 ((wrap64 (t201 * 86400)) + ((rd_T42 l0 x6_1).f5.f0))), .int .i64 0]) (ok := fun _ => True) (okp := fun _ => True) ?hr ?hp (fun _ hk => hk) trivial (Below.refl _ _) (Nat.le_refl _) (by simp) ?_; (case hd => rfl); (case hg => rfl); (case hr => first | (go_simp; done) | (go_simp; rfl)); (case hp => exact reps_one47 _ _ _ (⟨x6_1, a1, (wrap64 ((wrap64 (t201 * 86400)) + ((rd_T42 l0 x6_1).f5.f0))), 0⟩ : S47))
                                    intro v90 w1q ho hb hg_ hnew_
                                    clear hg_ hnew_
                                    have NL1 := Aside0.mk (Kd.R_lower ho HQ0.out.size)
                                    have HQ1 := Aside0.mk (below_step HQ0.out hb)
                                    clear ho hb
                                    refine hK.out _ _ (HS.out _ HQ1.out) (fun hHeld => ?_)
                                    clear hK K
                                    refine norm_ (a' := ?_) ?_ ?_
                                    rotate_left
                                    · show Act.put _ (some 90) _ = _
                                      simp only [Act.put, List.setIfInBounds_toArray, List.set_cons_zero, List.set_cons_succ, i64_w, i32_w]
                                      rfl
                                    refine one_ (i := 0) (N := some 84) #[true, true, true, true, false, true, true, false, true, true, true, false, false] rfl rfl (by kernel_rfl) (by decide) (fun K hK => ?_)
                                    refine Kd.R_lit_step k47 _ 47 ?hg (N := 84) ?hd (xs := ([] : List S47)) (inner := ([] : List Value)) (ok := fun _ => True) (okp := fun _ => True) ?hr ?hp (fun _ hk => hk) trivial (Below.refl _ _) (Nat.le_refl _) (by simp) ?_; (case hd => rfl); (case hg => rfl); (case hr => first | (go_simp; done) | (go_simp; rfl)); (case hp => exact Reps.none _ _)
                                    intro v84 w2q ho hb hg_ hnew_
                                    clear hg_ hnew_
                                    have NA2 := Aside0.mk (Kd.R_lower (Kd.R_new' ho (Kd.R_lt NL1.out)) HQ1.out.size)
                                    have NL2 := Aside0.mk (Kd.R_elder' NL1.out (Kd.R_base ho) hb)
                                    have HQ2 := Aside0.mk (below_step HQ1.out hb)
                                    clear ho hb
                                    refine hK.out _ _ (HS.out _ HQ2.out) (fun hHeld => ?_)
                                    clear hK K
                                    refine norm_ (a' := ?_) ?_ ?_
                                    rotate_left
                                    · show Act.put _ (some 84) _ = _
                                      simp only [Act.put, List.setIfInBounds_toArray, List.set_cons_zero, List.set_cons_succ, i64_w, i32_w]
                                      rfl
                                    refine one_ (i := 4) (N := some 88) #[true, true, true, true, true, true, true, false, true, true, true, false, false] rfl rfl (by kernel_rfl) (by decide) (fun K hK => ?_)
                                    refine Kd.R_append_rows_step k47 (w0 := wq) wq.heap.size (by rfl) (.tmp 84) (.tmp 87) 26 47 (.agg #[(.int .i64 0), (.int .i64 0), (.int .i64 0), (.int .i64 0)]) 32 rfl Try.underlying26 info47 rfl (by decide) (by decide) v84 [] (x5_1.take t_) (some ad205) t_ co27 (fun k => True ∧ some k ≠ (v90 : Value).ownBlock) (fun _ => False) rfl rfl NA2.out (CT.out _ HQ2.out) (fun _ _ h => by rw [k47_open h]; exact k47_mkM _ _ _ _) (fun _ h => h.elim) (fun k hk => ⟨trivial, Kd.fresh' (Kd.R_lt NL2.out) k hk⟩) HQ2.out HQ2.out.size (by have h1_ := LMc25.out; have h2_ := HTN.out; simp; omega) ?_
                                    intro v88 w3q ho hb hg hat
                                    rw [List.nil_append] at ho
                                    have NA3 := Aside0.mk ho
                                    have HQ3 := Aside0.mk hb
                                    have NL3 := Aside0.mk (Kd.R_mono (ok' := fun k => True ∧ some k ≠ (v88 : Value).ownBlock) (Kd.R_grown (Kd.R_bound NL2.out) hg (fun k hk => hk.1.2)) (fun k hk => ⟨trivial, fun he => by rcases hat with e9 | ⟨b9, e9, h9⟩; (exact hk.1.2 (he.trans e9)); (have e7 : k = b9 := Option.some.inj (he.trans e9); have h8 := hk.2.2.1; omega)⟩))
                                    clear ho hb hg hat
                                    refine hK.out _ _ (HS.out _ HQ3.out) (fun hHeld => ?_)
                                    clear hK K
                                    refine norm_ (a' := ?_) ?_ ?_
                                    rotate_left
                                    · show Act.put _ (some 88) _ = _
                                      simp only [Act.put, List.setIfInBounds_toArray, List.set_cons_zero, List.set_cons_succ, i64_w, i32_w]
                                      rfl
                                    exact norm_ (by simp only [putAll, Act.put, List.setIfInBounds_toArray, List.set_cons_zero, List.set_cons_succ]) (hCont (v84, v88, v90) _ ⟨hHeld, Kd.R_mono NA3.out (fun _ _ => trivial), NL3.out, HQ3.out⟩)
                                rintro ⟨v84, v88, v90⟩ w4q ⟨hS_, h0_, h1_, h2_⟩
                                have NA4 : Aside0 (Kd.R k47 47 w4q wq.heap.size (fun _ => True) v88 (x5_1.take t_)) := ⟨h0_⟩
                                have NL4 : Aside0 (Kd.R k47 47 w4q wq.heap.size (fun _ => True) v90 [(⟨x6_1, a1, (wrap64 ((wrap64 (t201 * 86400)) + ((rd_T42 l0 x6_1).f5.f0))), 0⟩ : S47)]) := ⟨Kd.R_mono h1_ (fun _ _ => trivial)⟩
                                have HQ4 : Aside0 (Below wq.heap.size wq w4q) := ⟨h2_⟩
                                clear h0_ h1_ h2_
                                have hHeld : w4q.cell? ⟨gb204, 0, none⟩ = some (.int .i64 x6_1) ∧ w4q.cell? ⟨gb204, 1, none⟩ = some (.int .i64 a1) ∧ w4q.cell? ⟨gb204, 2, none⟩ = some (.int .i64 (wrap64 ((wrap64 (t201 * 86400)) + ((rd_T42 l0 x6_1).f5.f0)))) ∧ w4q.cell? ⟨gb204, 3, none⟩ = some (.int .i64 0) := hS_
                                obtain ⟨A90, c90, e90⟩ := Kd.R_slice NL4.out
                                (first | subst e90 | (injection e90 with f1_ f2_ f3_; have f4_ := f1_.symm; have f5_ := f3_.symm; clear f1_ f2_ f3_; subst f4_; subst f5_))
                                refine norm_ (a' := ?_) ?_ ?_
                                rotate_left
                                · simp only [putAll, Act.put, List.setIfInBounds_toArray, List.set_cons_zero, List.set_cons_succ]
                                  rfl
                                refine one_ (i := 7) (N := some 91) #[true, true, true, true, true, true, true, true, true, true, true, false, false] rfl rfl (by kernel_rfl) (by decide) (fun K hK => ?_)
                                refine Kd.R_append_rows_step k47 (w0 := wq) wq.heap.size (by rfl) (.tmp 88) (.tmp 90) 26 47 (.agg #[(.int .i64 0), (.int .i64 0), (.int .i64 0), (.int .i64 0)]) 32 rfl Try.underlying26 info47 rfl (by decide) (by decide) v88 (x5_1.take t_) [(⟨x6_1, a1, (wrap64 ((wrap64 (t201 * 86400)) + ((rd_T42 l0 x6_1).f5.f0))), 0⟩ : S47)] A90 _ c90 (fun _ => True) (fun _ => False) rfl rfl NA4.out (Kd.R_reads' NL4.out).2.2 (fun _ _ h => by rw [k47_open h]; exact k47_mkM _ _ _ _) (fun _ h => h.elim) (fun _ _ => trivial) HQ4.out HQ4.out.size (by have h1_ := LMc25.out; have h2_ := HTN.out; rw [List.length_take_of_le h2_]; simp; omega) ?_
                                intro v91 w5q ho hb hg hat
                                have N5 := Aside0.mk ho
                                have HQ5 := Aside0.mk hb
                                clear ho hb hg hat
                                refine hK.out _ _ (HS.out _ HQ5.out) (fun hHeld => ?_)
                                clear hK K
                                refine norm_ (a' := ?_) ?_ ?_
                                rotate_left
                                · show Act.put _ (some 91) _ = _
                                  simp only [Act.put, List.setIfInBounds_toArray, List.set_cons_zero, List.set_cons_succ, i64_w, i32_w]
                                  rfl
                                refine one_ (i := 11) (N := some 95) #[true, true, true, true, true, true, true, true, true, true, true, true, false] rfl rfl (by kernel_rfl) (by decide) (fun K hK => ?_)
                                refine Kd.R_append_rows_step k47 (w0 := wq) wq.heap.size (by rfl) (.tmp 91) (.tmp 94) 26 47 (.agg #[(.int .i64 0), (.int .i64 0), (.int .i64 0), (.int .i64 0)]) 32 rfl Try.underlying26 info47 rfl (by decide) (by decide) v91 (x5_1.take t_ ++ [(⟨x6_1, a1, (wrap64 ((wrap64 (t201 * 86400)) + ((rd_T42 l0 x6_1).f5.f0))), 0⟩ : S47)]) (x5_1.drop t_) AD (x5_1.length - t_) (co27 - t_) (fun _ => True) (fun _ => False) rfl rfl N5.out (CD.out _ HQ5.out) (fun _ _ h => by rw [k47_open h]; exact k47_mkM _ _ _ _) (fun _ h => h.elim) (fun _ _ => trivial) HQ5.out HQ5.out.size (by have h1_ := LMc25.out; have h2_ := HTN.out; rw [List.length_append, List.length_take_of_le h2_]; simp; omega) ?_
                                intro v95 w6q ho hb hg hat
                                rw [← HYI.out, ← Ny207.out] at ho
                                have n0_ := Aside0.mk (blk_below BK204.out hb)
                                have n1_ := Aside0.mk (below_then HB.out HB.out.size hb)
                                have n2_ := Aside0.mk (Kd.R_lower ho HB.out.size)
                                have HQ6 := Aside0.mk hb
                                clear BK204
                                clear HB
                                clear ho hb hg hat
                                refine hK.out _ _ (HS.out _ HQ6.out) (fun hHeld => ?_)
                                have BK204 := n0_
                                have HB := n1_
                                have HO209 := n2_
                                clear n0_ n1_ n2_
                                clear hK K
                                refine norm_ (a' := ?_) ?_ ?_
                                rotate_left
                                · show Act.put _ (some 95) _ = _
                                  simp only [Act.put, List.setIfInBounds_toArray, List.set_cons_zero, List.set_cons_succ, i64_w, i32_w]
                                  rfl
                                refine pure_ (i := 12) (N := some 5) (v := ?_) (a' := ?_) #[true, true, true, true, true, true, true, true, true, true, true, true, true] rfl rfl (by kernel_rfl) (fun _ _ _ h => h) (Or.inl ⟨by rfl, ?_⟩) ?_ ?_
                                rotate_left
                                · intro w'
                                  go_simp
                                  with_reducible rfl
                                rotate_left
                                · simp only [Act.put, List.setIfInBounds_toArray, List.set_cons_zero, List.set_cons_succ, i64_w, i32_w]
                                  rfl
                                refine done_ (by kernel_rfl) ?_
                                try go_wp2
                                go_roundg k3
                                case measure => have := HK1.out; have := HJ3.out; have := HK3.out; omega
                                case rel => exact ⟨(y207), (wrap64 (x6_1 + 1)), (by first | rfl | (simp; done) | (simp [*]; done)), H', ⟨by have := HK1.out; have := HJ3.out; have := HK3.out; omega⟩, ⟨by (with_reducible repeat (first | apply Kd.R_alloc | apply Kd.R_drewN | apply Kd.R_drew)); exact Kd.R_mono HO209.out (fun _ hk => trivial)⟩, ⟨by repeat (first | (with_reducible first | exact HB.out | apply below_alloc | apply pw_below_drewN | apply below_drew1 | refine below_set ?_ GE204.out) | exact HB.out)⟩⟩
                              · rw [if_neg c25] at H
                                exact absurd H (by simp)
                          · rw [if_neg c19] at H
                            exact absurd H (by simp)
                        · rw [if_neg c18] at H
                          by_cases ce_ : x10_3 = (x5_1.length : Int)
                          case neg => rw [if_neg ce_] at H; exact absurd H (by simp)
                          rw [if_pos ce_] at H
                          have CE_ := Aside0.mk ce_
                          clear ce_
                          have c18b0 : decide (x10_3 < (x5_1.length : Int)) = false := decide_eq_false c18
                          clear c18
                          by_cases c31 : x5_1.length < 4398046511104
                          · rw [if_pos c31] at H
                            have LMc31 := Aside0.mk c31
                            clear c31
                            obtain ⟨y210, hy210⟩ : ∃ y_ : List (S47), y_ = (insE x5_1 x10_3 (⟨x6_1, a1, (wrap64 ((wrap64 (t201 * 86400)) + ((rd_T42 l0 x6_1).f5.f0))), 0⟩ : S47)) := ⟨_, rfl⟩
                            replace H : (noonmarkref14_year.l0 k3 l0 a1 y210 (wrap64 (x6_1 + 1))) = some r := by first | (rw [hy210]; with_reducible exact H) | (have H2_ := (Option.bind_some _ _).symm.trans H; rw [hy210]; with_reducible exact H2_) | (have H2_ := (Option.bind_some _ _).symm.trans H; with_reducible exact H2_) | with_reducible exact H | (rw [hy210]; exact H) | exact H
                            have Ny210 := Aside0.mk hy210
                            clear hy210
                            have H' := Aside0.mk H
                            clear H
                            try go_wp2
                            have n0_ := Aside0.mk (Kd.R_drew HO_5.out)
                            have n1_ := Aside0.mk (blk_drew BK204.out)
                            have n2_ := Aside0.mk (below_drew1 HB.out)
                            clear HO_5
                            clear BK204
                            clear HB
                            have HO_5 := n0_
                            have BK204 := n1_
                            have HB := n2_
                            clear n0_ n1_ n2_
                            obtain ⟨Ao33, co33, eo33⟩ := Kd.R_slice HO_5.out
                            (first | subst eo33 | (injection eo33 with f1_ f2_ f3_; have f4_ := f1_.symm; have f5_ := f3_.symm; clear f1_ f2_ f3_; subst f4_; subst f5_))
                            refine start_ (n := 12) (S := fun w' => True) (ds := []) #[false, false, false, false, false, false, false, false, false, false, false, false] (by kernel_rfl) rfl rfl trivial (fun hHeld => ?_); refine with_tabW noonmarkref14_year.tab10 noonmarkref14_year.bits10 (fun HT_ HW_ => ?_)
                            generalize wr.drew = w32 at HO_5 BK204 HB hHeld ⊢
                            refine pure_ (i := 0) (N := some 70) (v := ?_) (a' := ?_) #[true, false, false, false, false, false, false, false, false, false, false, false] rfl rfl (any_of HT_.out (by kernel_rfl)) (fun _ _ _ h => h) (Or.inl ⟨by rfl, ?_⟩) ?_ ?_
                            rotate_left
                            · intro w'
                              go_simp
                              with_reducible rfl
                            rotate_left
                            · simp only [Act.put, List.setIfInBounds_toArray, List.set_cons_zero, List.set_cons_succ, i64_w, i32_w]
                              rfl
                            refine pure_ (i := 1) (N := some 71) (v := ?_) (a' := ?_) #[true, true, false, false, false, false, false, false, false, false, false, false] rfl rfl (any_of HT_.out (by kernel_rfl)) (fun _ _ _ h => h) (Or.inl ⟨by rfl, ?_⟩) ?_ ?_
                            rotate_left
                            · intro w'
                              go_simp
                              with_reducible rfl
                            rotate_left
                            · simp only [Act.put, List.setIfInBounds_toArray, List.set_cons_zero, List.set_cons_succ, i64_w, i32_w]
                              rfl
                            refine pure_ (i := 2) (N := some 72) (v := ?_) (a' := ?_) #[true, true, true, false, false, false, false, false, false, false, false, false] rfl rfl (any_of HT_.out (by kernel_rfl)) (fun _ _ _ h => h) (Or.inl ⟨by rfl, ?_⟩) ?_ ?_
                            rotate_left
                            · intro w'
                              go_simp
                              with_reducible rfl
                            rotate_left
                            · simp only [Act.put, List.setIfInBounds_toArray, List.set_cons_zero, List.set_cons_succ, i64_w, i32_w]
                              rfl
                            refine pure_ (i := 3) (N := some 73) (v := ?_) (a' := ?_) #[true, true, true, true, false, false, false, false, false, false, false, false] rfl rfl (any_of HT_.out (by kernel_rfl)) (fun _ _ _ h => h) (Or.inl ⟨by rfl, ?_⟩) ?_ ?_
                            rotate_left
                            · intro w'
                              go_simp
                              with_reducible rfl
                            rotate_left
                            · simp only [Act.put, List.setIfInBounds_toArray, List.set_cons_zero, List.set_cons_succ, i64_w, i32_w]
                              rfl
                            refine pure_ (i := 4) (N := some 74) (v := ?_) (a' := ?_) #[true, true, true, true, true, false, false, false, false, false, false, false] rfl rfl (any_of HT_.out (by kernel_rfl)) (fun _ _ _ h => h) (Or.inl ⟨by rfl, ?_⟩) ?_ ?_
                            rotate_left
                            · intro w'
                              go_simp
                              with_reducible rfl
                            rotate_left
                            · simp only [Act.put, List.setIfInBounds_toArray, List.set_cons_zero, List.set_cons_succ, i64_w, i32_w]
                              rfl
                            refine pure_ (i := 5) (N := some 75) (v := undef) (a' := ?_) #[true, true, true, true, true, true, false, false, false, false, false, false] rfl rfl (any_of HT_.out (by kernel_rfl)) (fun _ _ _ h => h) (Or.inr ⟨by rfl, rfl⟩) ?_ ?_
                            rotate_left
                            · simp only [Act.put, List.setIfInBounds_toArray, List.set_cons_zero, List.set_cons_succ, i64_w, i32_w]
                              rfl
                            refine pure_ (i := 6) (N := some 76) (v := undef) (a' := ?_) #[true, true, true, true, true, true, true, false, false, false, false, false] rfl rfl (any_of HT_.out (by kernel_rfl)) (fun _ _ _ h => h) (Or.inr ⟨by rfl, rfl⟩) ?_ ?_
                            rotate_left
                            · simp only [Act.put, List.setIfInBounds_toArray, List.set_cons_zero, List.set_cons_succ, i64_w, i32_w]
                              rfl
                            refine pure_ (i := 7) (N := some 77) (v := undef) (a' := ?_) #[true, true, true, true, true, true, true, true, false, false, false, false] rfl rfl (any_of HT_.out (by kernel_rfl)) (fun _ _ _ h => h) (Or.inr ⟨by rfl, rfl⟩) ?_ ?_
                            rotate_left
                            · simp only [Act.put, List.setIfInBounds_toArray, List.set_cons_zero, List.set_cons_succ, i64_w, i32_w]
                              rfl
                            refine pure_ (i := 8) (N := some 78) (v := undef) (a' := ?_) #[true, true, true, true, true, true, true, true, true, false, false, false] rfl rfl (any_of HT_.out (by kernel_rfl)) (fun _ _ _ h => h) (Or.inr ⟨by rfl, rfl⟩) ?_ ?_
                            rotate_left
                            · simp only [Act.put, List.setIfInBounds_toArray, List.set_cons_zero, List.set_cons_succ, i64_w, i32_w]
                              rfl
                            refine pure_ (i := 9) (N := some 79) (v := undef) (a' := ?_) #[true, true, true, true, true, true, true, true, true, true, false, false] rfl rfl (any_of HT_.out (by kernel_rfl)) (fun _ _ _ h => h) (Or.inr ⟨by rfl, rfl⟩) ?_ ?_
                            rotate_left
                            · simp only [Act.put, List.setIfInBounds_toArray, List.set_cons_zero, List.set_cons_succ, i64_w, i32_w]
                              rfl
                            refine pure_ (i := 10) (N := some 80) (v := undef) (a' := ?_) #[true, true, true, true, true, true, true, true, true, true, true, false] rfl rfl (any_of HT_.out (by kernel_rfl)) (fun _ _ _ h => h) (Or.inr ⟨by rfl, rfl⟩) ?_ ?_
                            rotate_left
                            · simp only [Act.put, List.setIfInBounds_toArray, List.set_cons_zero, List.set_cons_succ, i64_w, i32_w]
                              rfl
                            refine pure_ (i := 11) (N := some 81) (v := ?_) (a' := ?_) #[true, true, true, true, true, true, true, true, true, true, true, true] rfl rfl (any_of HT_.out (by kernel_rfl)) (fun _ _ _ h => h) (Or.inl ⟨by rfl, ?_⟩) ?_ ?_
                            rotate_left
                            · intro w'
                              go_simp
                              with_reducible rfl
                            rotate_left
                            · simp only [Act.put, List.setIfInBounds_toArray, List.set_cons_zero, List.set_cons_succ, i64_w, i32_w]
                              rfl
                            refine done_ (done_of HT_.out (by kernel_rfl)) ?_
                            try go_wp2
                            have n0_ := Aside0.mk (Kd.R_drew HO_5.out)
                            have n1_ := Aside0.mk (blk_drew BK204.out)
                            have n2_ := Aside0.mk (below_drew1 HB.out)
                            clear HO_5
                            clear BK204
                            clear HB
                            have HO_5 := n0_
                            have BK204 := n1_
                            have HB := n2_
                            clear n0_ n1_ n2_
                            have hx10 : (0 : Int) ≤ x10_3 ∧ x10_3 ≤ (x5_1.length : Int) := ⟨by have := CE_.out; omega, by have := CE_.out; omega⟩
                            obtain ⟨t_, ht_⟩ : ∃ t_ : Nat, x10_3 = (t_ : Int) := ⟨x10_3.toNat, by have := hx10.1; omega⟩
                            have htn : t_ ≤ x5_1.length := by have := hx10.2; omega
                            have RD_ := Kd.R_reads' HO_5.out
                            have hnc : x5_1.length ≤ co33 := RD_.2.1
                            have hC5 := RD_.2.2
                            clear RD_
                            obtain ⟨AD, hAD⟩ : ∃ AD : Option Addr, AD = (if co33 = t_ then Ao33 else (Ao33 : Option Addr).map (·.add (t_ * 4))) := ⟨_, rfl⟩
                            have htk : ∀ W', (Instr.slice 26 (.slice Ao33 x5_1.length co33) none (some (.int .i64 x10_3)) none).run Try.prog W' = .ok (.slice Ao33 t_ co33) W' := fun W' => by rw [ht_]; exact take26 _ _ _ _ htn hnc W'
                            have hdp : ∀ W', (Instr.slice 26 (.slice Ao33 x5_1.length co33) (some (.int .i64 x10_3)) none none).run Try.prog W' = .ok (.slice AD (x5_1.length - t_) (co33 - t_)) W' := fun W' => by rw [ht_, hAD]; exact drop26 _ _ _ _ htn hnc W'
                            have CT : Aside0 (∀ W', Below (w32.drew).heap.size w32.drew W' → Kd.C k47 W' Ao33 t_ (x5_1.take t_)) := ⟨fun W' hb => by have h := Kd.C_take (m := t_) (Kd.C_below hC5 hb) htn; rwa [List.length_take_of_le htn] at h⟩
                            have CD : Aside0 (∀ W', Below (w32.drew).heap.size w32.drew W' → Kd.C k47 W' AD (x5_1.length - t_) (x5_1.drop t_)) := ⟨fun W' hb => by have h := Kd.C_drop (m := t_) (Kd.C_below hC5 hb) htn hnc; rw [List.length_drop] at h; rw [hAD]; exact h⟩
                            have HTN := Aside0.mk htn
                            have HYI := Aside0.mk (show insE x5_1 x10_3 (⟨x6_1, a1, (wrap64 ((wrap64 (t201 * 86400)) + ((rd_T42 l0 x6_1).f5.f0))), 0⟩ : S47) = x5_1.take t_ ++ [(⟨x6_1, a1, (wrap64 ((wrap64 (t201 * 86400)) + ((rd_T42 l0 x6_1).f5.f0))), 0⟩ : S47)] ++ x5_1.drop t_ from by rw [ht_]; rfl)
                            clear ht_ htn hnc hC5 hAD hx10
                            have HQ0 := Aside0.mk (Below.refl (w32.drew).heap.size w32.drew)
                            have HS : Aside0 (∀ w', Below (w32.drew).heap.size w32.drew w' → (w'.cell? ⟨gb204, 0, none⟩ = some (.int .i64 x6_1) ∧ w'.cell? ⟨gb204, 1, none⟩ = some (.int .i64 a1) ∧ w'.cell? ⟨gb204, 2, none⟩ = some (.int .i64 (wrap64 ((wrap64 (t201 * 86400)) + ((rd_T42 l0 x6_1).f5.f0)))) ∧ w'.cell? ⟨gb204, 3, none⟩ = some (.int .i64 0))) := ⟨fun w' hb => ⟨(blk_cell (blk_below BK204.out hb) 0).trans rfl, (blk_cell (blk_below BK204.out hb) 1).trans rfl, (blk_cell (blk_below BK204.out hb) 2).trans rfl, (blk_cell (blk_below BK204.out hb) 3).trans rfl⟩⟩
                            refine start_ (n := 13) (S := fun w' => w'.cell? ⟨gb204, 0, none⟩ = some (.int .i64 x6_1) ∧ w'.cell? ⟨gb204, 1, none⟩ = some (.int .i64 a1) ∧ w'.cell? ⟨gb204, 2, none⟩ = some (.int .i64 (wrap64 ((wrap64 (t201 * 86400)) + ((rd_T42 l0 x6_1).f5.f0)))) ∧ w'.cell? ⟨gb204, 3, none⟩ = some (.int .i64 0)) (ds := []) #[false, false, false, false, false, false, false, false, false, false, false, false, false] (by kernel_rfl) rfl rfl (HS.out _ HQ0.out) (fun hHeld => ?_)
                            generalize w32.drew = wq at HO_5 BK204 HB CT CD HQ0 HS hHeld ⊢
                            refine pure_ (i := 1) (N := some 85) (v := ?_) (a' := ?_) #[false, true, false, false, false, false, false, false, false, false, false, false, false] rfl rfl (by kernel_rfl) (fun _ _ _ h => h) (Or.inl ⟨by rfl, ?_⟩) ?_ ?_
                            rotate_left
                            · intro w'
                              go_simp
                              with_reducible rfl
                            rotate_left
                            · simp only [Act.put, List.setIfInBounds_toArray, List.set_cons_zero, List.set_cons_succ, i64_w, i32_w]
                              rfl
                            refine pure_ (i := 2) (N := some 86) (v := ?_) (a' := ?_) #[false, true, true, false, false, false, false, false, false, false, false, false, false] rfl rfl (by kernel_rfl) (fun _ _ _ h => h) (Or.inl ⟨by rfl, ?_⟩) ?_ ?_
                            rotate_left
                            · intro w'
                              go_simp
                              with_reducible rfl
                            rotate_left
                            · simp only [Act.put, List.setIfInBounds_toArray, List.set_cons_zero, List.set_cons_succ, i64_w, i32_w]
                              rfl
                            refine pure_ (i := 3) (N := some 87) (v := ?_) (a' := ?_) #[false, true, true, true, false, false, false, false, false, false, false, false, false] rfl rfl (by kernel_rfl) (fun _ _ _ h => h) (Or.inl ⟨by rfl, ?_⟩) ?_ ?_
                            rotate_left
                            · intro w'
                              go_simp
                              with_reducible rfl
                            rotate_left
                            · simp only [Act.put, List.setIfInBounds_toArray, List.set_cons_zero, List.set_cons_succ, i64_w, i32_w]
                              rfl
                            refine pure_ (i := 8) (N := some 92) (v := ?_) (a' := ?_) #[false, true, true, true, false, false, false, false, true, false, false, false, false] rfl rfl (by kernel_rfl) (fun _ _ _ h => h) (Or.inl ⟨by rfl, ?_⟩) ?_ ?_
                            rotate_left
                            · intro w'
                              go_simp
                              with_reducible rfl
                            rotate_left
                            · simp only [Act.put, List.setIfInBounds_toArray, List.set_cons_zero, List.set_cons_succ, i64_w, i32_w]
                              rfl
                            refine pure_ (i := 9) (N := some 93) (v := ?_) (a' := ?_) #[false, true, true, true, false, false, false, false, true, true, false, false, false] rfl rfl (by kernel_rfl) (fun _ _ _ h => h) (Or.inl ⟨by rfl, ?_⟩) ?_ ?_
                            rotate_left
                            · intro w'
                              go_simp
                              with_reducible rfl
                            rotate_left
                            · simp only [Act.put, List.setIfInBounds_toArray, List.set_cons_zero, List.set_cons_succ, i64_w, i32_w]
                              rfl
                            refine pure_ (i := 10) (N := some 94) (v := ?_) (a' := ?_) #[false, true, true, true, false, false, false, false, true, true, true, false, false] rfl rfl (by kernel_rfl) (fun _ _ _ h => h) (Or.inl ⟨by rfl, ?_⟩) ?_ ?_
                            rotate_left
                            · intro w'
                              go_simp
                              with_reducible rfl
                            rotate_left
                            · simp only [Act.put, List.setIfInBounds_toArray, List.set_cons_zero, List.set_cons_succ, i64_w, i32_w]
                              rfl
                            refine take_ (i := 5) (N := some 89) (v := ?_) (a' := ?_) #[false, true, true, true, false, true, false, false, true, true, true, false, false] rfl rfl (by kernel_rfl) (fun _ _ _ h => h) (Or.inl ⟨by rfl, ?_⟩) hHeld ?_ ?_
                            rotate_left
                            · rintro w' ⟨s0, s1, s2, s3⟩
                              go_simp
                              with_reducible rfl
                            rotate_left
                            · simp only [Act.put, List.setIfInBounds_toArray, List.set_cons_zero, List.set_cons_succ, i64_w, i32_w]
                              rfl
                            clear htk hdp
                            refine join_ (σ := Value × Value × Value) 3 #[true, true, true, true, true, true, true, false, true, true, true, false, false] (fun s_ => [(84, s_.1), (88, s_.2.1), (90, s_.2.2)]) (fun s_ w' => (w'.cell? ⟨gb204, 0, none⟩ = some (.int .i64 x6_1) ∧ w'.cell? ⟨gb204, 1, none⟩ = some (.int .i64 a1) ∧ w'.cell? ⟨gb204, 2, none⟩ = some (.int .i64 (wrap64 ((wrap64 (t201 * 86400)) + ((rd_T42 l0 x6_1).f5.f0)))) ∧ w'.cell? ⟨gb204, 3, none⟩ = some (.int .i64 0)) ∧ (Kd.R k47 47 w' wq.heap.size (fun _ => True) s_.2.1 (x5_1.take t_)) ∧ (Kd.R k47 47 w' wq.heap.size (fun k => True ∧ some k ≠ (s_.2.1 : Value).ownBlock) s_.2.2 [(⟨x6_1, a1, (wrap64 ((wrap64 (t201 * 86400)) + ((rd_T42 l0 x6_1).f5.f0))), 0⟩ : S47)]) ∧ (Below wq.heap.size wq w')) ?_ ?_
                            rotate_left
                            · intro hCont
                              refine two_ (i := 0) (j := 6) (Ni := some 84) (Nj := some 90) #[true, true, true, true, false, true, false, false, true, true, true, false, false] #[false, true, true, true, false, true, true, false, true, true, true, false, false] rfl rfl rfl rfl (by kernel_rfl) (by decide) (by decide) (fun K hK => ?_) (fun K hK => ?_)
                              · skip
                                refine Kd.R_lit_step k47 _ 47 ?hg (N := 84) ?hd (xs := ([] : List S47)) (inner := ([] : List Value)) (ok := fun _ => True) (okp := fun _ => True) ?hr ?hp (fun _ hk => hk) trivial (Below.refl _ _) (Nat.le_refl _) (by simp) ?_; (case hd => rfl); (case hg => rfl); (case hr => first | (go_simp; done) | (go_simp; rfl)); (case hp => exact Reps.none _ _)
                                intro v84 w1q ho hb hg_ hnew_
                                clear hg_ hnew_
                                have NA1 := Aside0.mk (Kd.R_lower ho HQ0.out.size)
                                have HQ1 := Aside0.mk (below_step HQ0.out hb)
                                clear ho hb
                                refine hK.out _ _ (HS.out _ HQ1.out) (fun hHeld => ?_)
                                clear hK K
                                refine norm_ (a' := ?_) ?_ ?_
                                rotate_left
                                · show Act.put _ (some 84) _ = _
                                  simp only [Act.put, List.setIfInBounds_toArray, List.set_cons_zero, List.set_cons_succ, i64_w, i32_w]
                                  rfl
                                refine two_ (i := 4) (j := 6) (Ni := some 88) (Nj := some 90) #[true, true, true, true, true, true, false, false, true, true, true, false, false] #[true, true, true, true, false, true, true, false, true, true, true, false, false] rfl rfl rfl rfl (by kernel_rfl) (by decide) (by decide) (fun K hK => ?_) (fun K hK => ?_)
                                · skip
                                  refine Kd.R_append_rows_step k47 (w0 := wq) wq.heap.size (by rfl) (.tmp 84) (.tmp 87) 26 47 (.agg #[(.int .i64 0), (.int .i64 0), (.int .i64 0), (.int .i64 0)]) 32 rfl Try.underlying26 info47 rfl (by decide) (by decide) v84 [] (x5_1.take t_) Ao33 t_ co33 (fun _ => True) (fun _ => False) rfl rfl NA1.out (CT.out _ HQ1.out) (fun _ _ h => by rw [k47_open h]; exact k47_mkM _ _ _ _) (fun _ h => h.elim) (fun _ _ => trivial) HQ1.out HQ1.out.size (by have h1_ := LMc31.out; have h2_ := HTN.out; simp; omega) ?_
                                  intro v88 w2q ho hb hg hat
                                  rw [List.nil_append] at ho
                                  have NA2 := Aside0.mk ho
                                  have HQ2 := Aside0.mk hb
                                  clear ho hb hg hat
                                  refine hK.out _ _ (HS.out _ HQ2.out) (fun hHeld => ?_)
                                  clear hK K
                                  refine norm_ (a' := ?_) ?_ ?_
                                  rotate_left
                                  · show Act.put _ (some 88) _ = _
                                    simp only [Act.put, List.setIfInBounds_toArray, List.set_cons_zero, List.set_cons_succ, i64_w, i32_w]
                                    rfl
                                  refine one_ (i := 6) (N := some 90) #[true, true, true, true, true, true, true, false, true, true, true, false, false] rfl rfl (by kernel_rfl) (by decide) (fun K hK => ?_)
                                  refine Kd.R_lit_step k47 _ 47 ?hg (N := 90) ?hd (xs := [(⟨x6_1, a1, (wrap64 ((wrap64 (t201 * 86400)) + ((rd_T42 l0 x6_1).f5.f0))), 0⟩ : S47)]) (inner := [.int .i64 x6_1, .int .i64 a1, .int .i64 (wrap64 ((wrap64 (t201 * 86400)) + ((rd_T42 l0 x6_1).f5.f0))), .int .i64 0]) (ok := fun _ => True) (okp := fun _ => True) ?hr ?hp (fun _ hk => hk) trivial (Below.refl _ _) (Nat.le_refl _) (by simp) ?_; (case hd => rfl); (case hg => rfl); (case hr => first | (go_simp; done) | (go_simp; rfl)); (case hp => exact reps_one47 _ _ _ (⟨x6_1, a1, (wrap64 ((wrap64 (t201 * 86400)) + ((rd_T42 l0 x6_1).f5.f0))), 0⟩ : S47))
                                  intro v90 w3q ho hb hg_ hnew_
                                  clear hg_ hnew_
                                  have NL3 := Aside0.mk (Kd.R_lower (Kd.R_new' ho (Kd.R_lt NA2.out)) HQ2.out.size)
                                  have NA3 := Aside0.mk (Kd.R_elder' NA2.out (Kd.R_base ho) hb)
                                  have HQ3 := Aside0.mk (below_step HQ2.out hb)
                                  clear ho hb
                                  refine hK.out _ _ (HS.out _ HQ3.out) (fun hHeld => ?_)
                                  clear hK K
                                  refine norm_ (a' := ?_) ?_ ?_
                                  rotate_left
                                  · show Act.put _ (some 90) _ = _
                                    simp only [Act.put, List.setIfInBounds_toArray, List.set_cons_zero, List.set_cons_succ, i64_w, i32_w]
                                    rfl
                                  exact norm_ (by simp only [putAll, Act.put, List.setIfInBounds_toArray, List.set_cons_zero, List.set_cons_succ]) (hCont (v84, v88, v90) _ ⟨hHeld, Kd.R_mono NA3.out (fun _ _ => trivial), NL3.out, HQ3.out⟩)
                                · skip
                                  refine Kd.R_lit_step k47 _ 47 ?hg (N := 90) ?hd (xs := [(⟨x6_1, a1, (wrap64 ((wrap64 (t201 * 86400)) + ((rd_T42 l0 x6_1).f5.f0))), 0⟩ : S47)]) (inner := [.int .i64 x6_1, .int .i64 a1, .int .i64 (wrap64 ((wrap64 (t201 * 86400)) + ((rd_T42 l0 x6_1).f5.f0))), .int .i64 0]) (ok := fun _ => True) (okp := fun _ => True) ?hr ?hp (fun _ hk => hk) trivial (Below.refl _ _) (Nat.le_refl _) (by simp) ?_; (case hd => rfl); (case hg => rfl); (case hr => first | (go_simp; done) | (go_simp; rfl)); (case hp => exact reps_one47 _ _ _ (⟨x6_1, a1, (wrap64 ((wrap64 (t201 * 86400)) + ((rd_T42 l0 x6_1).f5.f0))), 0⟩ : S47))
                                  intro v90 w2q ho hb hg_ hnew_
                                  clear hg_ hnew_
                                  have NL2 := Aside0.mk (Kd.R_lower (Kd.R_new' ho (Kd.R_lt NA1.out)) HQ1.out.size)
                                  have NA2 := Aside0.mk (Kd.R_elder' NA1.out (Kd.R_base ho) hb)
                                  have HQ2 := Aside0.mk (below_step HQ1.out hb)
                                  clear ho hb
                                  refine hK.out _ _ (HS.out _ HQ2.out) (fun hHeld => ?_)
                                  clear hK K
                                  refine norm_ (a' := ?_) ?_ ?_
                                  rotate_left
                                  · show Act.put _ (some 90) _ = _
                                    simp only [Act.put, List.setIfInBounds_toArray, List.set_cons_zero, List.set_cons_succ, i64_w, i32_w]
                                    rfl
                                  refine one_ (i := 4) (N := some 88) #[true, true, true, true, true, true, true, false, true, true, true, false, false] rfl rfl (by kernel_rfl) (by decide) (fun K hK => ?_)
                                  refine Kd.R_append_rows_step k47 (w0 := wq) wq.heap.size (by rfl) (.tmp 84) (.tmp 87) 26 47 (.agg #[(.int .i64 0), (.int .i64 0), (.int .i64 0), (.int .i64 0)]) 32 rfl Try.underlying26 info47 rfl (by decide) (by decide) v84 [] (x5_1.take t_) Ao33 t_ co33 (fun k => True ∧ some k ≠ (v90 : Value).ownBlock) (fun _ => False) rfl rfl NA2.out (CT.out _ HQ2.out) (fun _ _ h => by rw [k47_open h]; exact k47_mkM _ _ _ _) (fun _ h => h.elim) (fun k hk => ⟨trivial, Kd.fresh' (Kd.R_lt NL2.out) k hk⟩) HQ2.out HQ2.out.size (by have h1_ := LMc31.out; have h2_ := HTN.out; simp; omega) ?_
                                  intro v88 w3q ho hb hg hat
                                  rw [List.nil_append] at ho
                                  have NA3 := Aside0.mk ho
                                  have HQ3 := Aside0.mk hb
                                  have NL3 := Aside0.mk (Kd.R_mono (ok' := fun k => True ∧ some k ≠ (v88 : Value).ownBlock) (Kd.R_grown (Kd.R_bound NL2.out) hg (fun k hk => hk.1.2)) (fun k hk => ⟨trivial, fun he => by rcases hat with e9 | ⟨b9, e9, h9⟩; (exact hk.1.2 (he.trans e9)); (have e7 : k = b9 := Option.some.inj (he.trans e9); have h8 := hk.2.2.1; omega)⟩))
                                  clear ho hb hg hat
                                  refine hK.out _ _ (HS.out _ HQ3.out) (fun hHeld => ?_)
                                  clear hK K
                                  refine norm_ (a' := ?_) ?_ ?_
                                  rotate_left
                                  · show Act.put _ (some 88) _ = _
                                    simp only [Act.put, List.setIfInBounds_toArray, List.set_cons_zero, List.set_cons_succ, i64_w, i32_w]
                                    rfl
                                  exact norm_ (by simp only [putAll, Act.put, List.setIfInBounds_toArray, List.set_cons_zero, List.set_cons_succ]) (hCont (v84, v88, v90) _ ⟨hHeld, Kd.R_mono NA3.out (fun _ _ => trivial), NL3.out, HQ3.out⟩)
                              · skip
                                refine Kd.R_lit_step k47 _ 47 ?hg (N := 90) ?hd (xs := [(⟨x6_1, a1, (wrap64 ((wrap64 (t201 * 86400)) + ((rd_T42 l0 x6_1).f5.f0))), 0⟩ : S47)]) (inner := [.int .i64 x6_1, .int .i64 a1, .int .i64 (wrap64 ((wrap64 (t201 * 86400)) + ((rd_T42 l0 x6_1).f5.f0))), .int .i64 0]) (ok := fun _ => True) (okp := fun _ => True) ?hr ?hp (fun _ hk => hk) trivial (Below.refl _ _) (Nat.le_refl _) (by simp) ?_; (case hd => rfl); (case hg => rfl); (case hr => first | (go_simp; done) | (go_simp; rfl)); (case hp => exact reps_one47 _ _ _ (⟨x6_1, a1, (wrap64 ((wrap64 (t201 * 86400)) + ((rd_T42 l0 x6_1).f5.f0))), 0⟩ : S47))
                                intro v90 w1q ho hb hg_ hnew_
                                clear hg_ hnew_
                                have NL1 := Aside0.mk (Kd.R_lower ho HQ0.out.size)
                                have HQ1 := Aside0.mk (below_step HQ0.out hb)
                                clear ho hb
                                refine hK.out _ _ (HS.out _ HQ1.out) (fun hHeld => ?_)
                                clear hK K
                                refine norm_ (a' := ?_) ?_ ?_
                                rotate_left
                                · show Act.put _ (some 90) _ = _
                                  simp only [Act.put, List.setIfInBounds_toArray, List.set_cons_zero, List.set_cons_succ, i64_w, i32_w]
                                  rfl
                                refine one_ (i := 0) (N := some 84) #[true, true, true, true, false, true, true, false, true, true, true, false, false] rfl rfl (by kernel_rfl) (by decide) (fun K hK => ?_)
                                refine Kd.R_lit_step k47 _ 47 ?hg (N := 84) ?hd (xs := ([] : List S47)) (inner := ([] : List Value)) (ok := fun _ => True) (okp := fun _ => True) ?hr ?hp (fun _ hk => hk) trivial (Below.refl _ _) (Nat.le_refl _) (by simp) ?_; (case hd => rfl); (case hg => rfl); (case hr => first | (go_simp; done) | (go_simp; rfl)); (case hp => exact Reps.none _ _)
                                intro v84 w2q ho hb hg_ hnew_
                                clear hg_ hnew_
                                have NA2 := Aside0.mk (Kd.R_lower (Kd.R_new' ho (Kd.R_lt NL1.out)) HQ1.out.size)
                                have NL2 := Aside0.mk (Kd.R_elder' NL1.out (Kd.R_base ho) hb)
                                have HQ2 := Aside0.mk (below_step HQ1.out hb)
                                clear ho hb
                                refine hK.out _ _ (HS.out _ HQ2.out) (fun hHeld => ?_)
                                clear hK K
                                refine norm_ (a' := ?_) ?_ ?_
                                rotate_left
                                · show Act.put _ (some 84) _ = _
                                  simp only [Act.put, List.setIfInBounds_toArray, List.set_cons_zero, List.set_cons_succ, i64_w, i32_w]
                                  rfl
                                refine one_ (i := 4) (N := some 88) #[true, true, true, true, true, true, true, false, true, true, true, false, false] rfl rfl (by kernel_rfl) (by decide) (fun K hK => ?_)
                                refine Kd.R_append_rows_step k47 (w0 := wq) wq.heap.size (by rfl) (.tmp 84) (.tmp 87) 26 47 (.agg #[(.int .i64 0), (.int .i64 0), (.int .i64 0), (.int .i64 0)]) 32 rfl Try.underlying26 info47 rfl (by decide) (by decide) v84 [] (x5_1.take t_) Ao33 t_ co33 (fun k => True ∧ some k ≠ (v90 : Value).ownBlock) (fun _ => False) rfl rfl NA2.out (CT.out _ HQ2.out) (fun _ _ h => by rw [k47_open h]; exact k47_mkM _ _ _ _) (fun _ h => h.elim) (fun k hk => ⟨trivial, Kd.fresh' (Kd.R_lt NL2.out) k hk⟩) HQ2.out HQ2.out.size (by have h1_ := LMc31.out; have h2_ := HTN.out; simp; omega) ?_
                                intro v88 w3q ho hb hg hat
                                rw [List.nil_append] at ho
                                have NA3 := Aside0.mk ho
                                have HQ3 := Aside0.mk hb
                                have NL3 := Aside0.mk (Kd.R_mono (ok' := fun k => True ∧ some k ≠ (v88 : Value).ownBlock) (Kd.R_grown (Kd.R_bound NL2.out) hg (fun k hk => hk.1.2)) (fun k hk => ⟨trivial, fun he => by rcases hat with e9 | ⟨b9, e9, h9⟩; (exact hk.1.2 (he.trans e9)); (have e7 : k = b9 := Option.some.inj (he.trans e9); have h8 := hk.2.2.1; omega)⟩))
                                clear ho hb hg hat
                                refine hK.out _ _ (HS.out _ HQ3.out) (fun hHeld => ?_)
                                clear hK K
                                refine norm_ (a' := ?_) ?_ ?_
                                rotate_left
                                · show Act.put _ (some 88) _ = _
                                  simp only [Act.put, List.setIfInBounds_toArray, List.set_cons_zero, List.set_cons_succ, i64_w, i32_w]
                                  rfl
                                exact norm_ (by simp only [putAll, Act.put, List.setIfInBounds_toArray, List.set_cons_zero, List.set_cons_succ]) (hCont (v84, v88, v90) _ ⟨hHeld, Kd.R_mono NA3.out (fun _ _ => trivial), NL3.out, HQ3.out⟩)
                            rintro ⟨v84, v88, v90⟩ w4q ⟨hS_, h0_, h1_, h2_⟩
                            have NA4 : Aside0 (Kd.R k47 47 w4q wq.heap.size (fun _ => True) v88 (x5_1.take t_)) := ⟨h0_⟩
                            have NL4 : Aside0 (Kd.R k47 47 w4q wq.heap.size (fun _ => True) v90 [(⟨x6_1, a1, (wrap64 ((wrap64 (t201 * 86400)) + ((rd_T42 l0 x6_1).f5.f0))), 0⟩ : S47)]) := ⟨Kd.R_mono h1_ (fun _ _ => trivial)⟩
                            have HQ4 : Aside0 (Below wq.heap.size wq w4q) := ⟨h2_⟩
                            clear h0_ h1_ h2_
                            have hHeld : w4q.cell? ⟨gb204, 0, none⟩ = some (.int .i64 x6_1) ∧ w4q.cell? ⟨gb204, 1, none⟩ = some (.int .i64 a1) ∧ w4q.cell? ⟨gb204, 2, none⟩ = some (.int .i64 (wrap64 ((wrap64 (t201 * 86400)) + ((rd_T42 l0 x6_1).f5.f0)))) ∧ w4q.cell? ⟨gb204, 3, none⟩ = some (.int .i64 0) := hS_
                            obtain ⟨A90, c90, e90⟩ := Kd.R_slice NL4.out
                            (first | subst e90 | (injection e90 with f1_ f2_ f3_; have f4_ := f1_.symm; have f5_ := f3_.symm; clear f1_ f2_ f3_; subst f4_; subst f5_))
                            refine norm_ (a' := ?_) ?_ ?_
                            rotate_left
                            · simp only [putAll, Act.put, List.setIfInBounds_toArray, List.set_cons_zero, List.set_cons_succ]
                              rfl
                            refine one_ (i := 7) (N := some 91) #[true, true, true, true, true, true, true, true, true, true, true, false, false] rfl rfl (by kernel_rfl) (by decide) (fun K hK => ?_)
                            refine Kd.R_append_rows_step k47 (w0 := wq) wq.heap.size (by rfl) (.tmp 88) (.tmp 90) 26 47 (.agg #[(.int .i64 0), (.int .i64 0), (.int .i64 0), (.int .i64 0)]) 32 rfl Try.underlying26 info47 rfl (by decide) (by decide) v88 (x5_1.take t_) [(⟨x6_1, a1, (wrap64 ((wrap64 (t201 * 86400)) + ((rd_T42 l0 x6_1).f5.f0))), 0⟩ : S47)] A90 _ c90 (fun _ => True) (fun _ => False) rfl rfl NA4.out (Kd.R_reads' NL4.out).2.2 (fun _ _ h => by rw [k47_open h]; exact k47_mkM _ _ _ _) (fun _ h => h.elim) (fun _ _ => trivial) HQ4.out HQ4.out.size (by have h1_ := LMc31.out; have h2_ := HTN.out; rw [List.length_take_of_le h2_]; simp; omega) ?_
                            intro v91 w5q ho hb hg hat
                            have N5 := Aside0.mk ho
                            have HQ5 := Aside0.mk hb
                            clear ho hb hg hat
                            refine hK.out _ _ (HS.out _ HQ5.out) (fun hHeld => ?_)
                            clear hK K
                            refine norm_ (a' := ?_) ?_ ?_
                            rotate_left
                            · show Act.put _ (some 91) _ = _
                              simp only [Act.put, List.setIfInBounds_toArray, List.set_cons_zero, List.set_cons_succ, i64_w, i32_w]
                              rfl
                            refine one_ (i := 11) (N := some 95) #[true, true, true, true, true, true, true, true, true, true, true, true, false] rfl rfl (by kernel_rfl) (by decide) (fun K hK => ?_)
                            refine Kd.R_append_rows_step k47 (w0 := wq) wq.heap.size (by rfl) (.tmp 91) (.tmp 94) 26 47 (.agg #[(.int .i64 0), (.int .i64 0), (.int .i64 0), (.int .i64 0)]) 32 rfl Try.underlying26 info47 rfl (by decide) (by decide) v91 (x5_1.take t_ ++ [(⟨x6_1, a1, (wrap64 ((wrap64 (t201 * 86400)) + ((rd_T42 l0 x6_1).f5.f0))), 0⟩ : S47)]) (x5_1.drop t_) AD (x5_1.length - t_) (co33 - t_) (fun _ => True) (fun _ => False) rfl rfl N5.out (CD.out _ HQ5.out) (fun _ _ h => by rw [k47_open h]; exact k47_mkM _ _ _ _) (fun _ h => h.elim) (fun _ _ => trivial) HQ5.out HQ5.out.size (by have h1_ := LMc31.out; have h2_ := HTN.out; rw [List.length_append, List.length_take_of_le h2_]; simp; omega) ?_
                            intro v95 w6q ho hb hg hat
                            rw [← HYI.out, ← Ny210.out] at ho
                            have n0_ := Aside0.mk (blk_below BK204.out hb)
                            have n1_ := Aside0.mk (below_then HB.out HB.out.size hb)
                            have n2_ := Aside0.mk (Kd.R_lower ho HB.out.size)
                            have HQ6 := Aside0.mk hb
                            clear BK204
                            clear HB
                            clear ho hb hg hat
                            refine hK.out _ _ (HS.out _ HQ6.out) (fun hHeld => ?_)
                            have BK204 := n0_
                            have HB := n1_
                            have HO212 := n2_
                            clear n0_ n1_ n2_
                            clear hK K
                            refine norm_ (a' := ?_) ?_ ?_
                            rotate_left
                            · show Act.put _ (some 95) _ = _
                              simp only [Act.put, List.setIfInBounds_toArray, List.set_cons_zero, List.set_cons_succ, i64_w, i32_w]
                              rfl
                            refine pure_ (i := 12) (N := some 5) (v := ?_) (a' := ?_) #[true, true, true, true, true, true, true, true, true, true, true, true, true] rfl rfl (by kernel_rfl) (fun _ _ _ h => h) (Or.inl ⟨by rfl, ?_⟩) ?_ ?_
                            rotate_left
                            · intro w'
                              go_simp
                              with_reducible rfl
                            rotate_left
                            · simp only [Act.put, List.setIfInBounds_toArray, List.set_cons_zero, List.set_cons_succ, i64_w, i32_w]
                              rfl
                            refine done_ (by kernel_rfl) ?_
                            try go_wp2
                            go_roundg k3
                            case measure => have := HK1.out; have := HJ3.out; have := HK3.out; omega
                            case rel => exact ⟨(y210), (wrap64 (x6_1 + 1)), (by first | rfl | (simp; done) | (simp [*]; done)), H', ⟨by have := HK1.out; have := HJ3.out; have := HK3.out; omega⟩, ⟨by (with_reducible repeat (first | apply Kd.R_alloc | apply Kd.R_drewN | apply Kd.R_drew)); exact Kd.R_mono HO212.out (fun _ hk => trivial)⟩, ⟨by repeat (first | (with_reducible first | exact HB.out | apply below_alloc | apply pw_below_drewN | apply below_drew1 | refine below_set ?_ GE204.out) | exact HB.out)⟩⟩
                          · rw [if_neg c31] at H
                            exact absurd H (by simp)
                  · rw [if_neg c13] at H
                    have c13b0 : (t202 == 0) = false := beq_eq_false_iff_ne.mpr c13
                    have c13b1 : (t202 != 0) = true := bne_iff_ne.mpr c13
                    have H' := Aside0.mk H
                    clear H
                    try go_wp2
                    have n0_ := Aside0.mk (Kd.R_drew HO_5.out)
                    have n1_ := Aside0.mk (below_drew1 HB.out)
                    clear HO_5
                    clear HB
                    have HO_5 := n0_
                    have HB := n1_
                    clear n0_ n1_
                    have p199 : 0 ≤ (x6_1 : Int) := of_decide_eq_true (by first | (with_reducible assumption) | assumption)
                    have q199 : x6_1 < (l0.length : Int) := of_decide_eq_true (by first | (with_reducible assumption) | assumption)
                    obtain ⟨ad199, e199, hx199_0, hx199_1, hx199_2, hx199_3, hx199_4, hx199_5, hx199_6, hx199_7, hx199_8, hx199_9, hx199_10⟩ := at_T42 HR0.out x6_1 p199 q199
                    have hw199_10 := hx199_10
                    have hw199_9 := hx199_9
                    have hw199_8 := hx199_8
                    have hw199_7 := hx199_7
                    have hw199_6 := hx199_6
                    have hw199_5 := hx199_5
                    have hw199_4 := hx199_4
                    have hw199_3 := hx199_3
                    have hw199_2 := hx199_2
                    have hw199_1 := hx199_1
                    have hw199_0 := hx199_0
                    cases e199
                    replace hx199_0 := (HB.out.cell (World.block_lt_of_cell? w _ hx199_0)).trans hx199_0
                    replace hx199_1 := (HB.out.cell (World.block_lt_of_cell? w _ hx199_1)).trans hx199_1
                    replace hx199_2 := (HB.out.cell (World.block_lt_of_cell? w _ hx199_2)).trans hx199_2
                    replace hx199_3 := (HB.out.cell (World.block_lt_of_cell? w _ hx199_3)).trans hx199_3
                    replace hx199_4 := (HB.out.cell (World.block_lt_of_cell? w _ hx199_4)).trans hx199_4
                    replace hx199_5 := (HB.out.cell (World.block_lt_of_cell? w _ hx199_5)).trans hx199_5
                    replace hx199_6 := (HB.out.cell (World.block_lt_of_cell? w _ hx199_6)).trans hx199_6
                    replace hx199_7 := (HB.out.cell (World.block_lt_of_cell? w _ hx199_7)).trans hx199_7
                    replace hx199_8 := (HB.out.cell (World.block_lt_of_cell? w _ hx199_8)).trans hx199_8
                    replace hx199_9 := (HB.out.cell (World.block_lt_of_cell? w _ hx199_9)).trans hx199_9
                    replace hx199_10 := (HB.out.cell (World.block_lt_of_cell? w _ hx199_10)).trans hx199_10
                    replace p199 := eq_true p199
                    replace q199 := eq_true q199
                    have p200 : 0 ≤ (x6_1 : Int) := of_decide_eq_true (by first | (with_reducible assumption) | assumption)
                    have q200 : x6_1 < (l0.length : Int) := of_decide_eq_true (by first | (with_reducible assumption) | assumption)
                    obtain ⟨ad200, e200, hx200_0, hx200_1, hx200_2, hx200_3, hx200_4, hx200_5, hx200_6, hx200_7, hx200_8, hx200_9, hx200_10⟩ := at_T42 HR0.out x6_1 p200 q200
                    have hw200_10 := hx200_10
                    have hw200_9 := hx200_9
                    have hw200_8 := hx200_8
                    have hw200_7 := hx200_7
                    have hw200_6 := hx200_6
                    have hw200_5 := hx200_5
                    have hw200_4 := hx200_4
                    have hw200_3 := hx200_3
                    have hw200_2 := hx200_2
                    have hw200_1 := hx200_1
                    have hw200_0 := hx200_0
                    obtain rfl : ad199 = ad200 := (by injection e200)
                    replace hx200_0 := (HB.out.cell (World.block_lt_of_cell? w _ hx200_0)).trans hx200_0
                    replace hx200_1 := (HB.out.cell (World.block_lt_of_cell? w _ hx200_1)).trans hx200_1
                    replace hx200_2 := (HB.out.cell (World.block_lt_of_cell? w _ hx200_2)).trans hx200_2
                    replace hx200_3 := (HB.out.cell (World.block_lt_of_cell? w _ hx200_3)).trans hx200_3
                    replace hx200_4 := (HB.out.cell (World.block_lt_of_cell? w _ hx200_4)).trans hx200_4
                    replace hx200_5 := (HB.out.cell (World.block_lt_of_cell? w _ hx200_5)).trans hx200_5
                    replace hx200_6 := (HB.out.cell (World.block_lt_of_cell? w _ hx200_6)).trans hx200_6
                    replace hx200_7 := (HB.out.cell (World.block_lt_of_cell? w _ hx200_7)).trans hx200_7
                    replace hx200_8 := (HB.out.cell (World.block_lt_of_cell? w _ hx200_8)).trans hx200_8
                    replace hx200_9 := (HB.out.cell (World.block_lt_of_cell? w _ hx200_9)).trans hx200_9
                    replace hx200_10 := (HB.out.cell (World.block_lt_of_cell? w _ hx200_10)).trans hx200_10
                    replace p200 := eq_true p200
                    replace q200 := eq_true q200
                    refine start_ (n := 17) (S := fun w' => w'.cell? (ad199.add ((x6_1).toNat * 11)) = some (.string ((rd_T42 l0 x6_1).f0)) ∧ w'.cell? ⟨(ad199.add ((x6_1).toNat * 11)).block, (ad199.add ((x6_1).toNat * 11)).off + 1, none⟩ = some (.int .i64 ((rd_T42 l0 x6_1).f1)) ∧ w'.cell? ⟨(ad199.add ((x6_1).toNat * 11)).block, (ad199.add ((x6_1).toNat * 11)).off + 2, none⟩ = some (.int .i64 ((rd_T42 l0 x6_1).f2)) ∧ w'.cell? ⟨(ad199.add ((x6_1).toNat * 11)).block, (ad199.add ((x6_1).toNat * 11)).off + 3, none⟩ = some (.int .i64 ((rd_T42 l0 x6_1).f3)) ∧ w'.cell? ⟨(ad199.add ((x6_1).toNat * 11)).block, (ad199.add ((x6_1).toNat * 11)).off + 4, none⟩ = some (.int .i64 ((rd_T42 l0 x6_1).f4.f0)) ∧ w'.cell? ⟨(ad199.add ((x6_1).toNat * 11)).block, (ad199.add ((x6_1).toNat * 11)).off + 5, none⟩ = some (.int .i64 ((rd_T42 l0 x6_1).f4.f1)) ∧ w'.cell? ⟨(ad199.add ((x6_1).toNat * 11)).block, (ad199.add ((x6_1).toNat * 11)).off + 6, none⟩ = some (.int .i64 ((rd_T42 l0 x6_1).f4.f2)) ∧ w'.cell? ⟨(ad199.add ((x6_1).toNat * 11)).block, (ad199.add ((x6_1).toNat * 11)).off + 7, none⟩ = some (.int .i64 ((rd_T42 l0 x6_1).f5.f0)) ∧ w'.cell? ⟨(ad199.add ((x6_1).toNat * 11)).block, (ad199.add ((x6_1).toNat * 11)).off + 8, none⟩ = some (.int .i64 ((rd_T42 l0 x6_1).f5.f1)) ∧ w'.cell? ⟨(ad199.add ((x6_1).toNat * 11)).block, (ad199.add ((x6_1).toNat * 11)).off + 9, none⟩ = some (.int .i64 ((rd_T42 l0 x6_1).f6)) ∧ w'.cell? ⟨(ad199.add ((x6_1).toNat * 11)).block, (ad199.add ((x6_1).toNat * 11)).off + 10, none⟩ = some (.string ((rd_T42 l0 x6_1).f7)) ∧ w'.cell? (ad199.add ((x6_1).toNat * 11)) = some (.string ((rd_T42 l0 x6_1).f0)) ∧ w'.cell? ⟨(ad199.add ((x6_1).toNat * 11)).block, (ad199.add ((x6_1).toNat * 11)).off + 1, none⟩ = some (.int .i64 ((rd_T42 l0 x6_1).f1)) ∧ w'.cell? ⟨(ad199.add ((x6_1).toNat * 11)).block, (ad199.add ((x6_1).toNat * 11)).off + 2, none⟩ = some (.int .i64 ((rd_T42 l0 x6_1).f2)) ∧ w'.cell? ⟨(ad199.add ((x6_1).toNat * 11)).block, (ad199.add ((x6_1).toNat * 11)).off + 3, none⟩ = some (.int .i64 ((rd_T42 l0 x6_1).f3)) ∧ w'.cell? ⟨(ad199.add ((x6_1).toNat * 11)).block, (ad199.add ((x6_1).toNat * 11)).off + 4, none⟩ = some (.int .i64 ((rd_T42 l0 x6_1).f4.f0)) ∧ w'.cell? ⟨(ad199.add ((x6_1).toNat * 11)).block, (ad199.add ((x6_1).toNat * 11)).off + 5, none⟩ = some (.int .i64 ((rd_T42 l0 x6_1).f4.f1)) ∧ w'.cell? ⟨(ad199.add ((x6_1).toNat * 11)).block, (ad199.add ((x6_1).toNat * 11)).off + 6, none⟩ = some (.int .i64 ((rd_T42 l0 x6_1).f4.f2)) ∧ w'.cell? ⟨(ad199.add ((x6_1).toNat * 11)).block, (ad199.add ((x6_1).toNat * 11)).off + 7, none⟩ = some (.int .i64 ((rd_T42 l0 x6_1).f5.f0)) ∧ w'.cell? ⟨(ad199.add ((x6_1).toNat * 11)).block, (ad199.add ((x6_1).toNat * 11)).off + 8, none⟩ = some (.int .i64 ((rd_T42 l0 x6_1).f5.f1)) ∧ w'.cell? ⟨(ad199.add ((x6_1).toNat * 11)).block, (ad199.add ((x6_1).toNat * 11)).off + 9, none⟩ = some (.int .i64 ((rd_T42 l0 x6_1).f6)) ∧ w'.cell? ⟨(ad199.add ((x6_1).toNat * 11)).block, (ad199.add ((x6_1).toNat * 11)).off + 10, none⟩ = some (.string ((rd_T42 l0 x6_1).f7))) (ds := []) #[false, false, false, false, false, false, false, false, false, false, false, false, false, false, false, false, false] (by kernel_rfl) rfl rfl ⟨((HB.out.cell (World.block_lt_of_cell? w _ hw199_0)).trans hw199_0), ((HB.out.cell (World.block_lt_of_cell? w _ hw199_1)).trans hw199_1), ((HB.out.cell (World.block_lt_of_cell? w _ hw199_2)).trans hw199_2), ((HB.out.cell (World.block_lt_of_cell? w _ hw199_3)).trans hw199_3), ((HB.out.cell (World.block_lt_of_cell? w _ hw199_4)).trans hw199_4), ((HB.out.cell (World.block_lt_of_cell? w _ hw199_5)).trans hw199_5), ((HB.out.cell (World.block_lt_of_cell? w _ hw199_6)).trans hw199_6), ((HB.out.cell (World.block_lt_of_cell? w _ hw199_7)).trans hw199_7), ((HB.out.cell (World.block_lt_of_cell? w _ hw199_8)).trans hw199_8), ((HB.out.cell (World.block_lt_of_cell? w _ hw199_9)).trans hw199_9), ((HB.out.cell (World.block_lt_of_cell? w _ hw199_10)).trans hw199_10), ((HB.out.cell (World.block_lt_of_cell? w _ hw200_0)).trans hw200_0), ((HB.out.cell (World.block_lt_of_cell? w _ hw200_1)).trans hw200_1), ((HB.out.cell (World.block_lt_of_cell? w _ hw200_2)).trans hw200_2), ((HB.out.cell (World.block_lt_of_cell? w _ hw200_3)).trans hw200_3), ((HB.out.cell (World.block_lt_of_cell? w _ hw200_4)).trans hw200_4), ((HB.out.cell (World.block_lt_of_cell? w _ hw200_5)).trans hw200_5), ((HB.out.cell (World.block_lt_of_cell? w _ hw200_6)).trans hw200_6), ((HB.out.cell (World.block_lt_of_cell? w _ hw200_7)).trans hw200_7), ((HB.out.cell (World.block_lt_of_cell? w _ hw200_8)).trans hw200_8), ((HB.out.cell (World.block_lt_of_cell? w _ hw200_9)).trans hw200_9), ((HB.out.cell (World.block_lt_of_cell? w _ hw200_10)).trans hw200_10)⟩ (fun hHeld => ?_); refine with_tabW noonmarkref14_year.tab6 noonmarkref14_year.bits6 (fun HT_ HW_ => ?_)
                    generalize wc.drew = w36 at HO_5 HB hx199_0 hx199_1 hx199_10 hx199_2 hx199_3 hx199_4 hx199_5 hx199_6 hx199_7 hx199_8 hx199_9 hx200_0 hx200_1 hx200_10 hx200_2 hx200_3 hx200_4 hx200_5 hx200_6 hx200_7 hx200_8 hx200_9 hHeld ⊢
                    refine pure_ (i := 0) (N := some 42) (v := ?_) (a' := ?_) #[true, false, false, false, false, false, false, false, false, false, false, false, false, false, false, false, false] rfl rfl (any_of HT_.out (by kernel_rfl)) (fun _ _ _ h => h) (Or.inl ⟨by rfl, ?_⟩) ?_ ?_
                    rotate_left
                    · intro w'
                      go_simp
                      with_reducible rfl
                    rotate_left
                    · simp only [Act.put, List.setIfInBounds_toArray, List.set_cons_zero, List.set_cons_succ, i64_w, i32_w]
                      rfl
                    refine pure_ (i := 1) (N := some 43) (v := ?_) (a' := ?_) #[true, true, false, false, false, false, false, false, false, false, false, false, false, false, false, false, false] rfl rfl (any_of HT_.out (by kernel_rfl)) (fun _ _ _ h => h) (Or.inl ⟨by rfl, ?_⟩) ?_ ?_
                    rotate_left
                    · intro w'
                      go_simp
                      with_reducible rfl
                    rotate_left
                    · simp only [Act.put, List.setIfInBounds_toArray, List.set_cons_zero, List.set_cons_succ, i64_w, i32_w]
                      rfl
                    refine pure_ (i := 2) (N := some 44) (v := ?_) (a' := ?_) #[true, true, true, false, false, false, false, false, false, false, false, false, false, false, false, false, false] rfl rfl (any_of HT_.out (by kernel_rfl)) (fun _ _ _ h => h) (Or.inl ⟨by rfl, ?_⟩) ?_ ?_
                    rotate_left
                    · intro w'
                      go_simp
                      with_reducible rfl
                    rotate_left
                    · simp only [Act.put, List.setIfInBounds_toArray, List.set_cons_zero, List.set_cons_succ, i64_w, i32_w]
                      rfl
                    refine pure_ (i := 3) (N := some 45) (v := ?_) (a' := ?_) #[true, true, true, true, false, false, false, false, false, false, false, false, false, false, false, false, false] rfl rfl (any_of HT_.out (by kernel_rfl)) (fun _ _ _ h => h) (Or.inl ⟨by rfl, ?_⟩) ?_ ?_
                    rotate_left
                    · intro w'
                      go_simp
                      with_reducible rfl
                    rotate_left
                    · simp only [Act.put, List.setIfInBounds_toArray, List.set_cons_zero, List.set_cons_succ, i64_w, i32_w]
                      rfl
                    refine pure_ (i := 5) (N := some 47) (v := ?_) (a' := ?_) #[true, true, true, true, false, true, false, false, false, false, false, false, false, false, false, false, false] rfl rfl (any_of HT_.out (by kernel_rfl)) (fun _ _ _ h => h) (Or.inl ⟨by rfl, ?_⟩) ?_ ?_
                    rotate_left
                    · intro w'
                      go_simp
                      with_reducible rfl
                    rotate_left
                    · simp only [Act.put, List.setIfInBounds_toArray, List.set_cons_zero, List.set_cons_succ, i64_w, i32_w]
                      rfl
                    refine pure_ (i := 6) (N := some 48) (v := ?_) (a' := ?_) #[true, true, true, true, false, true, true, false, false, false, false, false, false, false, false, false, false] rfl rfl (any_of HT_.out (by kernel_rfl)) (fun _ _ _ h => h) (Or.inl ⟨by rfl, ?_⟩) ?_ ?_
                    rotate_left
                    · intro w'
                      go_simp
                      with_reducible rfl
                    rotate_left
                    · simp only [Act.put, List.setIfInBounds_toArray, List.set_cons_zero, List.set_cons_succ, i64_w, i32_w]
                      rfl
                    refine pure_ (i := 7) (N := some 49) (v := ?_) (a' := ?_) #[true, true, true, true, false, true, true, true, false, false, false, false, false, false, false, false, false] rfl rfl (any_of HT_.out (by kernel_rfl)) (fun _ _ _ h => h) (Or.inl ⟨by rfl, ?_⟩) ?_ ?_
                    rotate_left
                    · intro w'
                      go_simp
                      with_reducible rfl
                    rotate_left
                    · simp only [Act.put, List.setIfInBounds_toArray, List.set_cons_zero, List.set_cons_succ, i64_w, i32_w]
                      rfl
                    refine pure_ (i := 8) (N := some 50) (v := ?_) (a' := ?_) #[true, true, true, true, false, true, true, true, true, false, false, false, false, false, false, false, false] rfl rfl (any_of HT_.out (by kernel_rfl)) (fun _ _ _ h => h) (Or.inl ⟨by rfl, ?_⟩) ?_ ?_
                    rotate_left
                    · intro w'
                      go_simp
                      with_reducible rfl
                    rotate_left
                    · simp only [Act.put, List.setIfInBounds_toArray, List.set_cons_zero, List.set_cons_succ, i64_w, i32_w]
                      rfl
                    refine pure_ (i := 9) (N := some 51) (v := ?_) (a' := ?_) #[true, true, true, true, false, true, true, true, true, true, false, false, false, false, false, false, false] rfl rfl (any_of HT_.out (by kernel_rfl)) (fun _ _ _ h => h) (Or.inl ⟨by rfl, ?_⟩) ?_ ?_
                    rotate_left
                    · intro w'
                      go_simp
                      with_reducible rfl
                    rotate_left
                    · simp only [Act.put, List.setIfInBounds_toArray, List.set_cons_zero, List.set_cons_succ, i64_w, i32_w]
                      rfl
                    refine take_ (i := 4) (N := some 46) (v := ?_) (a' := ?_) #[true, true, true, true, true, true, true, true, true, true, false, false, false, false, false, false, false] rfl rfl (take_ofW HT_.out HW_.out (by kernel_rfl)) (fun _ _ _ h => h) (Or.inl ⟨by rfl, ?_⟩) hHeld ?_ ?_
                    rotate_left
                    · rintro w' ⟨s0, s1, s2, s3, s4, s5, s6, s7, s8, s9, s10, s11, s12, s13, s14, s15, s16, s17, s18, s19, s20, s21⟩
                      go_simp
                      with_reducible rfl
                    rotate_left
                    · simp only [Act.put, List.setIfInBounds_toArray, List.set_cons_zero, List.set_cons_succ, i64_w, i32_w]
                      rfl
                    refine take_ (i := 10) (N := some 52) (v := ?_) (a' := ?_) #[true, true, true, true, true, true, true, true, true, true, true, false, false, false, false, false, false] rfl rfl (take_ofW HT_.out HW_.out (by kernel_rfl)) (fun _ _ _ h => h) (Or.inl ⟨by rfl, ?_⟩) hHeld ?_ ?_
                    rotate_left
                    · rintro w' ⟨s0, s1, s2, s3, s4, s5, s6, s7, s8, s9, s10, s11, s12, s13, s14, s15, s16, s17, s18, s19, s20, s21⟩
                      go_simp
                      with_reducible rfl
                    rotate_left
                    · simp only [Act.put, List.setIfInBounds_toArray, List.set_cons_zero, List.set_cons_succ, i64_w, i32_w]
                      rfl
                    refine one_ (i := 11) (N := some 53) #[true, true, true, true, true, true, true, true, true, true, true, true, false, false, false, false, false] rfl rfl (one_of HT_.out (by kernel_rfl)) (by decide) (fun K hK => ?_)
                    refine goes_ Try.func36 (by kernel_rfl) rfl #[.agg #[.int .i64 ((rd_T42 l0 x6_1).f4.f0), .int .i64 ((rd_T42 l0 x6_1).f4.f1), .int .i64 ((rd_T42 l0 x6_1).f4.f2)], .int .i64 a1, .int .i64 ((rd_T42 l0 x6_1).f3)] (by rfl) rfl rfl (by (try simp only [List.map_toArray, List.map_cons, List.map_nil]); first | done | rfl | (simp only [List.length_drop, List.length_take]; rfl)) ?_
                    with_reducible refine (noonmarkref06_Of.calls kj3 ((rd_T42 l0 x6_1).f4.f0) ((rd_T42 l0 x6_1).f4.f1) ((rd_T42 l0 x6_1).f4.f2) a1 ((rd_T42 l0 x6_1).f3) t201 t202 _ A12.out).mono ?_
                    rintro e w37 ⟨rfl, hb⟩
                    refine ⟨_, rfl, ?_⟩
                    have n0_ := Aside0.mk (Kd.R_below (by (with_reducible repeat (first | apply Kd.R_alloc | apply Kd.R_drewN | apply Kd.R_drew)); exact HO_5.out) hb)
                    have n1_ := Aside0.mk (below_step (by repeat (first | (with_reducible first | exact HB.out | apply below_alloc | apply pw_below_drewN | apply below_drew1) | exact HB.out)) hb)
                    clear HO_5
                    clear HB
                    have HO_5 := n0_
                    have HB := n1_
                    clear n0_ n1_
                    (try clear hb)
                    (try clear hb2)
                    (try clear hk)
                    (try clear hi)
                    refine hK.out _ _ ⟨((HB.out.cell (World.block_lt_of_cell? w _ hw199_0)).trans hw199_0), ((HB.out.cell (World.block_lt_of_cell? w _ hw199_1)).trans hw199_1), ((HB.out.cell (World.block_lt_of_cell? w _ hw199_2)).trans hw199_2), ((HB.out.cell (World.block_lt_of_cell? w _ hw199_3)).trans hw199_3), ((HB.out.cell (World.block_lt_of_cell? w _ hw199_4)).trans hw199_4), ((HB.out.cell (World.block_lt_of_cell? w _ hw199_5)).trans hw199_5), ((HB.out.cell (World.block_lt_of_cell? w _ hw199_6)).trans hw199_6), ((HB.out.cell (World.block_lt_of_cell? w _ hw199_7)).trans hw199_7), ((HB.out.cell (World.block_lt_of_cell? w _ hw199_8)).trans hw199_8), ((HB.out.cell (World.block_lt_of_cell? w _ hw199_9)).trans hw199_9), ((HB.out.cell (World.block_lt_of_cell? w _ hw199_10)).trans hw199_10), ((HB.out.cell (World.block_lt_of_cell? w _ hw200_0)).trans hw200_0), ((HB.out.cell (World.block_lt_of_cell? w _ hw200_1)).trans hw200_1), ((HB.out.cell (World.block_lt_of_cell? w _ hw200_2)).trans hw200_2), ((HB.out.cell (World.block_lt_of_cell? w _ hw200_3)).trans hw200_3), ((HB.out.cell (World.block_lt_of_cell? w _ hw200_4)).trans hw200_4), ((HB.out.cell (World.block_lt_of_cell? w _ hw200_5)).trans hw200_5), ((HB.out.cell (World.block_lt_of_cell? w _ hw200_6)).trans hw200_6), ((HB.out.cell (World.block_lt_of_cell? w _ hw200_7)).trans hw200_7), ((HB.out.cell (World.block_lt_of_cell? w _ hw200_8)).trans hw200_8), ((HB.out.cell (World.block_lt_of_cell? w _ hw200_9)).trans hw200_9), ((HB.out.cell (World.block_lt_of_cell? w _ hw200_10)).trans hw200_10)⟩ (fun hHeld => ?_)
                    clear hK K
                    refine norm_ (a' := ?_) ?_ ?_
                    rotate_left
                    · show Act.put _ (some 53) _ = _
                      simp only [Act.put, List.setIfInBounds_toArray, List.set_cons_zero, List.set_cons_succ, i64_w, i32_w]
                      rfl
                    refine pure_ (i := 12) (N := some 41) (v := ?_) (a' := ?_) #[true, true, true, true, true, true, true, true, true, true, true, true, true, false, false, false, false] rfl rfl (any_of HT_.out (by kernel_rfl)) (fun _ _ _ h => h) (Or.inl ⟨by rfl, ?_⟩) ?_ ?_
                    rotate_left
                    · intro w'
                      go_simp
                      with_reducible rfl
                    rotate_left
                    · simp only [Act.put, List.setIfInBounds_toArray, List.set_cons_zero, List.set_cons_succ, i64_w, i32_w]
                      rfl
                    refine pure_ (i := 13) (N := some 54) (v := ?_) (a' := ?_) #[true, true, true, true, true, true, true, true, true, true, true, true, true, true, false, false, false] rfl rfl (any_of HT_.out (by kernel_rfl)) (fun _ _ _ h => h) (Or.inl ⟨by rfl, ?_⟩) ?_ ?_
                    rotate_left
                    · intro w'
                      go_simp
                      with_reducible rfl
                    rotate_left
                    · simp only [Act.put, List.setIfInBounds_toArray, List.set_cons_zero, List.set_cons_succ, i64_w, i32_w]
                      rfl
                    refine pure_ (i := 14) (N := some 55) (v := ?_) (a' := ?_) #[true, true, true, true, true, true, true, true, true, true, true, true, true, true, true, false, false] rfl rfl (any_of HT_.out (by kernel_rfl)) (fun _ _ _ h => h) (Or.inl ⟨by rfl, ?_⟩) ?_ ?_
                    rotate_left
                    · intro w'
                      go_simp
                      with_reducible rfl
                    rotate_left
                    · simp only [Act.put, List.setIfInBounds_toArray, List.set_cons_zero, List.set_cons_succ, i64_w, i32_w]
                      rfl
                    refine pure_ (i := 15) (N := some 7) (v := ?_) (a' := ?_) #[true, true, true, true, true, true, true, true, true, true, true, true, true, true, true, true, false] rfl rfl (any_of HT_.out (by kernel_rfl)) (fun _ _ _ h => h) (Or.inl ⟨by rfl, ?_⟩) ?_ ?_
                    rotate_left
                    · intro w'
                      go_simp
                      with_reducible rfl
                    rotate_left
                    · simp only [Act.put, List.setIfInBounds_toArray, List.set_cons_zero, List.set_cons_succ, i64_w, i32_w]
                      rfl
                    refine pure_ (i := 16) (N := some 8) (v := ?_) (a' := ?_) #[true, true, true, true, true, true, true, true, true, true, true, true, true, true, true, true, true] rfl rfl (any_of HT_.out (by kernel_rfl)) (fun _ _ _ h => h) (Or.inl ⟨by rfl, ?_⟩) ?_ ?_
                    rotate_left
                    · intro w'
                      go_simp
                      with_reducible rfl
                    rotate_left
                    · simp only [Act.put, List.setIfInBounds_toArray, List.set_cons_zero, List.set_cons_succ, i64_w, i32_w]
                      rfl
                    refine done_ (done_of HT_.out (by kernel_rfl)) ?_
                    try go_wp2
                    go_roundg kj3
                    case measure => have := HK1.out; have := HJ3.out; omega
                    case rel => exact ⟨(x5_1), (wrap64 (x6_1 + 1)), (by first | rfl | (simp; done) | (simp [*]; done)), H', ⟨by have := HK1.out; have := HJ3.out; omega⟩, ⟨by (with_reducible repeat (first | apply Kd.R_alloc | apply Kd.R_drewN | apply Kd.R_drew)); exact HO_5.out⟩, ⟨by repeat (first | (with_reducible first | exact HB.out | apply below_alloc | apply pw_below_drewN | apply below_drew1) | exact HB.out)⟩⟩
                · rw [if_neg c11] at H
                  exact absurd H (by simp)
              · rw [if_neg c10] at H
                exact absurd H (by simp)
      · rw [if_neg c3] at H
        have c3b0 : decide (x6_1 < (l0.length : Int)) = false := decide_eq_false c3
        clear c3
        obtain rfl := Option.some.inj H
        go_wp2
        go_ret
        exact ⟨_, by first | rfl | (simp [errW_none, errW_some] <;> rfl) | (simp [*, errW_none, errW_some] <;> rfl), by (with_reducible repeat (first | apply Kd.R_alloc | apply Kd.R_drewN | apply Kd.R_drew)); exact HO_5.out, by repeat (first | (with_reducible first | exact HB.out | apply below_alloc | apply pw_below_drewN | apply below_drew1) | exact HB.out)⟩

end Go.Proofs.Ytlonanlogdokfaa.S
