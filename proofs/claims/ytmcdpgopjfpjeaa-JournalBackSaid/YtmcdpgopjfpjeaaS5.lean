-- Written by a program of this session for this claim (it follows the print's forms). Not trusted: Lean checks it.
import Derived.Test.YtmcdpgopjfpjeaaS0
import Derived.Test.YtmcdpgopjfpjeaaS4
namespace Go.Proofs.Ytmcdpgopjfpjeaa.S
open Go.RowKit Go.Proofs.YtmcdpgopjfpjeaaW.PrintWords Go.Proofs.YtmcdpgopjfpjeaaW.PrintLast Go.Proofs.YtmcdpgopjfpjeaaW.PrintMore
attribute [local go_sem] max2_int min2_int max_two min_two max_three min_three max_four min_four   -- for this text's walks alone
set_option linter.unusedVariables false
set_option linter.unusedSimpArgs false

/-! ### noonmarkref29_Read: function 14 -/
mutual
def noonmarkref29_Read.l0 : Nat → List Int → List (S24) → Int → Option ((List (S24)) × Int)
  | 0, _, _, _ => none
  | k + 1, x0, x4, x5 => if (wrap64 ((x0.length : Int) - x5)) ≥ 10 then (if 0 ≤ x5 then (if x5 ≤ (x0.length : Int) then ((some (x0.drop (x5 : Int).toNat : List Int)).bind fun y168 => (if 2 < (y168.length : Int) then (if 3 < (y168.length : Int) then (if 4 < (y168.length : Int) then (if 5 < (y168.length : Int) then (if (wrap64 ((wrap64 ((wrap64 ((wrap64 (rd y168 2)) + (wrap64 ((wrap64 (rd y168 3)) * 256)))) + (wrap64 ((wrap64 (rd y168 4)) * 65536)))) + (wrap64 ((wrap64 (rd y168 5)) * 16777216)))) > 100000 then (noonmarkref29_Read.j1 k x0 x4 x5 y168 (wrap64 ((wrap64 ((wrap64 ((wrap64 (rd y168 2)) + (wrap64 ((wrap64 (rd y168 3)) * 256)))) + (wrap64 ((wrap64 (rd y168 4)) * 65536)))) + (wrap64 ((wrap64 (rd y168 5)) * 16777216)))) true) else (noonmarkref29_Read.j1 k x0 x4 x5 y168 (wrap64 ((wrap64 ((wrap64 ((wrap64 (rd y168 2)) + (wrap64 ((wrap64 (rd y168 3)) * 256)))) + (wrap64 ((wrap64 (rd y168 4)) * 65536)))) + (wrap64 ((wrap64 (rd y168 5)) * 16777216)))) (decide ((y168.length : Int) < (wrap64 ((wrap64 ((wrap64 ((wrap64 ((wrap64 (rd y168 2)) + (wrap64 ((wrap64 (rd y168 3)) * 256)))) + (wrap64 ((wrap64 (rd y168 4)) * 65536)))) + (wrap64 ((wrap64 (rd y168 5)) * 16777216)))) + 10)))))) else (none)) else (none)) else (none)) else (none))) else (none)) else (none)) else (some (x4, x5))
def noonmarkref29_Read.j1 : Nat → List Int → List (S24) → Int → List Int → Int → Bool → Option ((List (S24)) × Int)
  | 0, _, _, _, _, _, _ => none
  | k + 1, x0, x4, x5, x6, x7, x49 => if x49 = true then (some (x4, x5)) else (if 1 < (x6.length : Int) then (if 6 ≤ (wrap64 (6 + x7)) then (if (wrap64 (6 + x7)) ≤ (x6.length : Int) then ((some ((x6.take ((wrap64 (6 + x7)) : Int).toNat).drop 6 : List Int)).bind fun y178 => ((noonmarkref29_Frame.f k (wrap64 (rd x6 1)) y178).bind fun bt184 => (if bt184.2 = 0 then (if 0 ≤ (wrap64 (x7 + 10)) then (if (wrap64 (x7 + 10)) ≤ (x6.length : Int) then ((noonmarkref01_Same.f k bt184.1 (x6.take ((wrap64 (x7 + 10)) : Int).toNat)).bind fun t193 => (if t193 = true then (if x4.length < 4398046511104 then (noonmarkref29_Read.l0 k x0 (x4 ++ [(⟨wrap64 (rd x6 1), y178⟩ : S24)]) (wrap64 ((wrap64 (x5 + x7)) + 10))) else (none)) else (some (x4, x5)))) else (none)) else (none)) else (some (x4, x5))))) else (none)) else (none)) else (none))
end
def noonmarkref29_Read.f (k : Nat) (l0 : List Int) : Option ((List (S24)) × Int) := noonmarkref29_Read.l0 k l0 ([] : List (S24)) 0
theorem noonmarkref29_Read.mono_l : ∀ k, (∀ y0 y1 y2, LeO (noonmarkref29_Read.l0 k y0 y1 y2) (noonmarkref29_Read.l0 (k + 1) y0 y1 y2)) ∧ (∀ y0 y1 y2 y3 y4 y5, LeO (noonmarkref29_Read.j1 k y0 y1 y2 y3 y4 y5) (noonmarkref29_Read.j1 (k + 1) y0 y1 y2 y3 y4 y5))
  | 0 => ⟨fun _ _ _ r h => by simp [noonmarkref29_Read.l0] at h, fun _ _ _ _ _ _ r h => by simp [noonmarkref29_Read.j1] at h⟩
  | k + 1 => by
    obtain ⟨ih0, ih1⟩ := noonmarkref29_Read.mono_l k
    refine ⟨?_, ?_⟩
    · intro y0 y1 y2
      unfold noonmarkref29_Read.l0
      repeat' first
      | (with_reducible exact ih0 _ _ _)
      | (with_reducible exact ih1 _ _ _ _ _ _)
      | (with_reducible exact noonmarkref01_Same.mono _ _ _)
      | (with_reducible exact noonmarkref29_Frame.mono _ _ _)
      | (with_reducible exact LeO.refl _)
      | (with_reducible exact LeO.none _)
      | (with_reducible refine LeO.ite ?_ ?_)
      | (with_reducible refine LeO.bind ?_ (fun _ => ?_))
      | exact ih0 _ _ _
      | exact ih1 _ _ _ _ _ _
      | exact noonmarkref01_Same.mono _ _ _
      | exact noonmarkref29_Frame.mono _ _ _
      | exact LeO.none _
      | refine LeO.ite ?_ ?_
      | refine LeO.bind ?_ (fun _ => ?_)
    · intro y0 y1 y2 y3 y4 y5
      unfold noonmarkref29_Read.j1
      repeat' first
      | (with_reducible exact ih0 _ _ _)
      | (with_reducible exact ih1 _ _ _ _ _ _)
      | (with_reducible exact noonmarkref01_Same.mono _ _ _)
      | (with_reducible exact noonmarkref29_Frame.mono _ _ _)
      | (with_reducible exact LeO.refl _)
      | (with_reducible exact LeO.none _)
      | (with_reducible refine LeO.ite ?_ ?_)
      | (with_reducible refine LeO.bind ?_ (fun _ => ?_))
      | exact ih0 _ _ _
      | exact ih1 _ _ _ _ _ _
      | exact noonmarkref01_Same.mono _ _ _
      | exact noonmarkref29_Frame.mono _ _ _
      | exact LeO.none _
      | refine LeO.ite ?_ ?_
      | refine LeO.bind ?_ (fun _ => ?_)
theorem noonmarkref29_Read.mono : ∀ a0 k, LeO (noonmarkref29_Read.f k a0) (noonmarkref29_Read.f (k + 1) a0) := by
  intro a0 k
  obtain ⟨ih0, ih1⟩ := noonmarkref29_Read.mono_l k
  unfold noonmarkref29_Read.f
  repeat' first
      | (with_reducible exact ih0 _ _ _)
      | (with_reducible exact ih1 _ _ _ _ _ _)
      | (with_reducible exact noonmarkref01_Same.mono _ _ _)
      | (with_reducible exact noonmarkref29_Frame.mono _ _ _)
      | (with_reducible exact LeO.refl _)
      | (with_reducible exact LeO.none _)
      | (with_reducible refine LeO.ite ?_ ?_)
      | (with_reducible refine LeO.bind ?_ (fun _ => ?_))
      | exact ih0 _ _ _
      | exact ih1 _ _ _ _ _ _
      | exact noonmarkref01_Same.mono _ _ _
      | exact noonmarkref29_Frame.mono _ _ _
      | exact LeO.none _
      | refine LeO.ite ?_ ?_
      | refine LeO.bind ?_ (fun _ => ?_)
def noonmarkref29_Read.T5 : Bool × List (List Nat × List Nat) := (true, [([], []), ([0], [0]), ([1], [1]), ([2], [2]), ([], []), ([4], [4]), ([5], [5]), ([6], [6]), ([7], [7]), ([3, 8], [3, 8]), ([], []), ([10], [10]), ([11], [11]), ([12], [12]), ([13], [13]), ([9, 14], [9, 14]), ([], []), ([16], [16]), ([17], [17]), ([18], [18]), ([19], [19]), ([15, 20], [15, 20]), ([21, 0, 1, 2, 3, 4, 5, 6, 7, 8, 9, 10, 11, 12, 13, 14, 15, 16, 17, 18, 19, 20, 21], [21])])
def noonmarkref29_Read.B5 : List Nat := [0, 1, 3, 7, 0, 16, 48, 112, 240, 511, 0, 1024, 3072, 7168, 15360, 32767, 0, 65536, 196608, 458752, 983040, 2097151, 4194303]
theorem noonmarkref29_Read.tab5 : rtab .any (opsOf Try.f14 5) = noonmarkref29_Read.T5 := by kernel_rfl
theorem noonmarkref29_Read.bits5 : waitsOk noonmarkref29_Read.T5.2 noonmarkref29_Read.B5 = true := by kernel_rfl
def noonmarkref29_Read.T8 : Bool × List (List Nat × List Nat) := (true, [([], []), ([0], [0]), ([1], [1]), ([2], [2]), ([], []), ([], []), ([5], [5]), ([4, 6], [4, 6]), ([3, 7], [3, 7]), ([], []), ([9, 8, 0, 1, 2, 3, 4, 5, 6, 7, 8, 9], [8, 9])])
def noonmarkref29_Read.B8 : List Nat := [0, 1, 3, 7, 0, 0, 32, 112, 255, 0, 1023]
theorem noonmarkref29_Read.tab8 : rtab .any (opsOf Try.f14 8) = noonmarkref29_Read.T8 := by kernel_rfl
theorem noonmarkref29_Read.bits8 : waitsOk noonmarkref29_Read.T8.2 noonmarkref29_Read.B8 = true := by kernel_rfl
set_option maxHeartbeats 8000000 in
set_option maxRecDepth 100000 in
theorem noonmarkref29_Read.calls (k : Nat) (P0_ : Nat → Prop) (A0 : Option Addr) (c0 : Nat) (l0 : List Int) (r1 : List (S24)) (r2 : Int) (w : World) (hs0 : Kd.V (Kd.int .u8) 5 w w.heap.size (fun k_ => P0_ k_) (.slice A0 l0.length c0) l0) (h : noonmarkref29_Read.f k l0 = some (r1, r2)) :
    Calls Try.prog 14 #[.slice A0 l0.length c0] w fun e w' => ∃ v0_ : Value, e = .returned (.tuple #[v0_, .int .i64 r2]) ∧ Kd.N k24 24 w' w.heap.size (fun k_ => (P0_ k_ ∨ w.heap.size ≤ k_)) v0_ r1 ∧ Below w.heap.size w w' := by
  have hu24 := Try.underlying24
  have HO0 := Aside0.mk (show Kd.V (Kd.int .u8) 5 w w.heap.size (fun k_ => (P0_ k_ ∨ w.heap.size ≤ k_)) (.slice A0 l0.length c0) l0 from Kd.V_mono hs0 (fun k_ hk => .inl hk))
  have HB := Aside0.mk (Below.refl w.heap.size w)
  have H : (noonmarkref29_Read.l0 k l0 ([] : List (S24)) 0) = some (r1, r2) := h
  clear h
  have H' := Aside0.mk H
  clear H
  go_enter Try.func14, Try.ntmps14
  go_wp2
  go_loopg [4, 5] k (fun kq v4 v5 w' => ∃ (x4_1 : List (S24)) (x5_1 : Int), v5 = .int .i64 x5_1 ∧ Aside0 (noonmarkref29_Read.l0 kq l0 x4_1 x5_1 = some (r1, r2)) ∧ Aside0 (kq ≤ k) ∧ Aside0 (Kd.V (Kd.int .u8) 5 w' w.heap.size (fun k_ => (P0_ k_ ∨ w.heap.size ≤ k_) ∧ some k_ ≠ (v4 : Value).ownBlock) (.slice A0 l0.length c0) l0) ∧ Aside0 (Kd.N k24 24 w' w.heap.size (fun k_ => (P0_ k_ ∨ w.heap.size ≤ k_)) v4 x4_1) ∧ Aside0 (Below w.heap.size w w'))
  case atStart => exact ⟨(([] : List (S24))), (0), (by first | rfl | (simp; done) | (simp [*]; done)), H', ⟨Nat.le_refl _⟩, ⟨by (with_reducible repeat (first | apply Kd.V_alloc | apply Kd.V_drewN | apply Kd.V_drew)); exact Kd.V_mono HO0.out (fun _ hk => ⟨hk, (by simp [Value.ownBlock])⟩)⟩, ⟨by first | exact Kd.S_nil _ _ _ _ _ | exact Kd.N_nil _ _ _ _ _ | exact Kd.V_nil _ _ _ _ _ | exact Kd.Q_nil _ _ _ _ _ | exact Kd.R_nil _ _ _ _ _⟩, ⟨by repeat (first | (with_reducible first | exact HB.out | apply below_alloc | apply pw_below_drewN | apply below_drew1) | exact HB.out)⟩⟩
  case round =>
    clear H'
    try clear c1
    obtain ⟨x4_1, x5_1, rfl, HA, HK1, HO_0, HO_4, HB⟩ := hrel
    cases gk with
    | zero => exact absurd HA.out (by simp [noonmarkref29_Read.l0])
    | succ k1 =>
      have H := HA.out
      clear HA
      simp only [noonmarkref29_Read.l0] at H
      by_cases c2 : (wrap64 ((l0.length : Int) - x5_1)) ≥ 10
      · rw [if_pos c2] at H
        have c2b0 : decide (10 ≤ (wrap64 ((l0.length : Int) - x5_1))) = true := decide_eq_true c2
        clear c2
        by_cases c3 : 0 ≤ x5_1
        · rw [if_pos c3] at H
          have c3b0 := eq_true c3
          have c3b1 : decide (0 ≤ x5_1) = true := decide_eq_true c3
          clear c3
          by_cases c4 : x5_1 ≤ (l0.length : Int)
          · rw [if_pos c4] at H
            have c4b0 := eq_true c4
            have c4b1 : decide (x5_1 ≤ (l0.length : Int)) = true := decide_eq_true c4
            clear c4
            obtain ⟨y168, hy168⟩ : ∃ y_ : List Int, y_ = (l0.drop (x5_1 : Int).toNat) := ⟨_, rfl⟩
            replace H : (if 2 < (y168.length : Int) then (if 3 < (y168.length : Int) then (if 4 < (y168.length : Int) then (if 5 < (y168.length : Int) then (if (wrap64 ((wrap64 ((wrap64 ((wrap64 (rd y168 2)) + (wrap64 ((wrap64 (rd y168 3)) * 256)))) + (wrap64 ((wrap64 (rd y168 4)) * 65536)))) + (wrap64 ((wrap64 (rd y168 5)) * 16777216)))) > 100000 then (noonmarkref29_Read.j1 k1 l0 x4_1 x5_1 y168 (wrap64 ((wrap64 ((wrap64 ((wrap64 (rd y168 2)) + (wrap64 ((wrap64 (rd y168 3)) * 256)))) + (wrap64 ((wrap64 (rd y168 4)) * 65536)))) + (wrap64 ((wrap64 (rd y168 5)) * 16777216)))) true) else (noonmarkref29_Read.j1 k1 l0 x4_1 x5_1 y168 (wrap64 ((wrap64 ((wrap64 ((wrap64 (rd y168 2)) + (wrap64 ((wrap64 (rd y168 3)) * 256)))) + (wrap64 ((wrap64 (rd y168 4)) * 65536)))) + (wrap64 ((wrap64 (rd y168 5)) * 16777216)))) (decide ((y168.length : Int) < (wrap64 ((wrap64 ((wrap64 ((wrap64 ((wrap64 (rd y168 2)) + (wrap64 ((wrap64 (rd y168 3)) * 256)))) + (wrap64 ((wrap64 (rd y168 4)) * 65536)))) + (wrap64 ((wrap64 (rd y168 5)) * 16777216)))) + 10)))))) else (none)) else (none)) else (none)) else (none)) = some (r1, r2) := by first | (rw [hy168]; with_reducible exact H) | (have H2_ := (Option.bind_some _ _).symm.trans H; rw [hy168]; with_reducible exact H2_) | (have H2_ := (Option.bind_some _ _).symm.trans H; with_reducible exact H2_) | with_reducible exact H | (rw [hy168]; exact H) | exact H
            have Ny168 := Aside0.mk hy168
            clear hy168
            by_cases c5 : 2 < (y168.length : Int)
            · rw [if_pos c5] at H
              have c5b0 : decide (2 < (y168.length : Int)) = true := decide_eq_true c5
              have c5b1 : decide (2 < y168.length) = true := decide_eq_true (by omega)
              clear c5
              by_cases c6 : 3 < (y168.length : Int)
              · rw [if_pos c6] at H
                have c6b0 : decide (3 < (y168.length : Int)) = true := decide_eq_true c6
                have c6b1 : decide (3 < y168.length) = true := decide_eq_true (by omega)
                clear c6
                by_cases c7 : 4 < (y168.length : Int)
                · rw [if_pos c7] at H
                  have c7b0 : decide (4 < (y168.length : Int)) = true := decide_eq_true c7
                  have c7b1 : decide (4 < y168.length) = true := decide_eq_true (by omega)
                  clear c7
                  by_cases c8 : 5 < (y168.length : Int)
                  · rw [if_pos c8] at H
                    have c8b0 : decide (5 < (y168.length : Int)) = true := decide_eq_true c8
                    have c8b1 : decide (5 < y168.length) = true := decide_eq_true (by omega)
                    clear c8
                    have HC9 := Aside0.mk H
                    clear H
                    have q10 : (x5_1 : Int) ≤ ((l0.length : Int) : Int) := of_decide_eq_true (by first | (with_reducible assumption) | assumption)
                    obtain ⟨i010, hi010, _, hsz10, _⟩ := info_parts info5
                    have hroom10 : l0.length ≤ c0 := (Kd.V_reads' HO_0.out).2.1
                    have hC10 : Kd.F (Kd.int .u8) _ _ A0 l0.length l0 := (Kd.V_at (base := w.heap.size) HO_0.out).2.2
                    have q010 : (0 : Int) ≤ (x5_1 : Int) := of_decide_eq_true (by first | (with_reducible assumption) | assumption)
                    have hcut10 := cut_from (P := Try.prog) 22 5 .i64 Try.underlying22 hi010 1 hsz10 A0 l0.length c0 x5_1 q010 q10
                    have hr10 := Kd.F_cut (m := (x5_1 : Int).toNat) (c := c0) hC10 (by omega) hroom10
                    obtain ⟨A10, hA10⟩ : ∃ A1, A1 = (if c0 = (x5_1 : Int).toNat then A0 else (A0 : Option Addr).map (·.add ((x5_1 : Int).toNat * 1))) := ⟨_, rfl⟩
                    obtain ⟨c10, hc10⟩ : ∃ c1, c1 = c0 - (x5_1 : Int).toNat := ⟨_, rfl⟩
                    have hy10 : y168.length = l0.length - (x5_1 : Int).toNat := (by rw [Ny168.out, List.length_drop] <;> omega)
                    rw [show (l0).drop (x5_1 : Int).toNat = y168 from Ny168.out.symm] at hr10
                    replace hr10 : Kd.F (Kd.int .u8) _ _ A10 y168.length y168 := (by rw [hA10]; exact hr10)
                    rw [← hy10, ← hA10, ← hc10] at hcut10
                    have HO172 := Aside0.mk (show Kd.V (Kd.int .u8) 5 _ w.heap.size _ (.slice A10 y168.length c10) y168 from Kd.V_mk (by rw [hy10, hc10]; exact Nat.sub_le_sub_right hroom10 _) hr10)
                    have HC172 := Aside0.mk (show y168.length ≤ c10 from by rw [hy10, hc10]; exact Nat.sub_le_sub_right hroom10 _)
                    clear hr10 hC10 hroom10 hi010 hsz10 hc10
                    have KY10 := Aside0.mk hy10
                    have KA10 := Aside0.mk hA10
                    clear hy10 hA10
                    replace q10 := eq_true q10
                    try go_wp2
                    have n0_ := Aside0.mk (Kd.V_drew HO_0.out)
                    have n1_ := Aside0.mk (Kd.N_drew HO_4.out)
                    have n2_ := Aside0.mk (Kd.V_drew HO172.out)
                    have n3_ := Aside0.mk (below_drew1 HB.out)
                    clear HO_0
                    clear HO_4
                    clear HO172
                    clear HB
                    have HO_0 := n0_
                    have HO_4 := n1_
                    have HO172 := n2_
                    have HB := n3_
                    clear n0_ n1_ n2_ n3_
                    have p173 : 0 ≤ (2 : Int) := (by omega)
                    have q173 : 2 < (y168.length : Int) := of_decide_eq_true (by first | (with_reducible assumption) | assumption)
                    obtain ⟨ad173, e173, hx173_0⟩ := Kd.at_int (Kd.V_reads' HO172.out).2.2 2 p173 q173
                    cases e173
                    (try simp only [show (2 : Int).toNat = 2 from rfl, Nat.reduceMul, Nat.reduceEqDiff, Go.Addr.add, ↓reduceIte] at hx173_0)
                    have qi173 : (2 < y168.length) = True := eq_true (by omega)
                    (try rw [show ((2 : Int)).toNat = 2 from rfl] at hx173_0)
                    replace p173 := eq_true p173
                    replace q173 := eq_true q173
                    have p174 : 0 ≤ (3 : Int) := (by omega)
                    have q174 : 3 < (y168.length : Int) := of_decide_eq_true (by first | (with_reducible assumption) | assumption)
                    obtain ⟨ad174, e174, hx174_0⟩ := Kd.at_int (Kd.V_reads' HO172.out).2.2 3 p174 q174
                    obtain rfl : ad173 = ad174 := (by injection e174)
                    (try simp only [show (3 : Int).toNat = 3 from rfl, Nat.reduceMul, Nat.reduceEqDiff, Go.Addr.add, ↓reduceIte] at hx174_0)
                    have qi174 : (3 < y168.length) = True := eq_true (by omega)
                    (try rw [show ((3 : Int)).toNat = 3 from rfl] at hx174_0)
                    replace p174 := eq_true p174
                    replace q174 := eq_true q174
                    have p175 : 0 ≤ (4 : Int) := (by omega)
                    have q175 : 4 < (y168.length : Int) := of_decide_eq_true (by first | (with_reducible assumption) | assumption)
                    obtain ⟨ad175, e175, hx175_0⟩ := Kd.at_int (Kd.V_reads' HO172.out).2.2 4 p175 q175
                    obtain rfl : ad173 = ad175 := (by injection e175)
                    (try simp only [show (4 : Int).toNat = 4 from rfl, Nat.reduceMul, Nat.reduceEqDiff, Go.Addr.add, ↓reduceIte] at hx175_0)
                    have qi175 : (4 < y168.length) = True := eq_true (by omega)
                    (try rw [show ((4 : Int)).toNat = 4 from rfl] at hx175_0)
                    replace p175 := eq_true p175
                    replace q175 := eq_true q175
                    have p176 : 0 ≤ (5 : Int) := (by omega)
                    have q176 : 5 < (y168.length : Int) := of_decide_eq_true (by first | (with_reducible assumption) | assumption)
                    obtain ⟨ad176, e176, hx176_0⟩ := Kd.at_int (Kd.V_reads' HO172.out).2.2 5 p176 q176
                    obtain rfl : ad173 = ad176 := (by injection e176)
                    (try simp only [show (5 : Int).toNat = 5 from rfl, Nat.reduceMul, Nat.reduceEqDiff, Go.Addr.add, ↓reduceIte] at hx176_0)
                    have qi176 : (5 < y168.length) = True := eq_true (by omega)
                    (try rw [show ((5 : Int)).toNat = 5 from rfl] at hx176_0)
                    replace p176 := eq_true p176
                    replace q176 := eq_true q176
                    refine start_ (n := 23) (S := fun w' => w'.cell? ⟨ad173.block, ad173.off + 2, none⟩ = some (.int .u8 (rd y168 2)) ∧ w'.cell? ⟨ad173.block, ad173.off + 3, none⟩ = some (.int .u8 (rd y168 3)) ∧ w'.cell? ⟨ad173.block, ad173.off + 4, none⟩ = some (.int .u8 (rd y168 4)) ∧ w'.cell? ⟨ad173.block, ad173.off + 5, none⟩ = some (.int .u8 (rd y168 5))) (ds := []) #[false, false, false, false, false, false, false, false, false, false, false, false, false, false, false, false, false, false, false, false, false, false, false] (by kernel_rfl) rfl rfl ⟨hx173_0, hx174_0, hx175_0, hx176_0⟩ (fun hHeld => ?_); refine with_tabW noonmarkref29_Read.tab5 noonmarkref29_Read.bits5 (fun HT_ HW_ => ?_)
                    generalize wr.drew = w11 at HO_0 HO_4 HO172 HB hx173_0 hx174_0 hx175_0 hx176_0 hHeld ⊢
                    refine pure_ (i := 0) (N := some 19) (v := ?_) (a' := ?_) #[true, false, false, false, false, false, false, false, false, false, false, false, false, false, false, false, false, false, false, false, false, false, false] rfl rfl (any_of HT_.out (by kernel_rfl)) (fun _ _ _ h => h) (Or.inl ⟨by rfl, ?_⟩) ?_ ?_
                    rotate_left
                    · intro w'
                      go_simp
                      with_reducible rfl
                    rotate_left
                    · simp only [Act.put, List.setIfInBounds_toArray, List.set_cons_zero, List.set_cons_succ, i64_w, i32_w]
                      rfl
                    refine pure_ (i := 1) (N := some 20) (v := ?_) (a' := ?_) #[true, true, false, false, false, false, false, false, false, false, false, false, false, false, false, false, false, false, false, false, false, false, false] rfl rfl (any_of HT_.out (by kernel_rfl)) (fun _ _ _ h => h) (Or.inl ⟨by rfl, ?_⟩) ?_ ?_
                    rotate_left
                    · intro w'
                      go_simp
                      with_reducible rfl
                    rotate_left
                    · simp only [Act.put, List.setIfInBounds_toArray, List.set_cons_zero, List.set_cons_succ, i64_w, i32_w]
                      rfl
                    refine pure_ (i := 4) (N := some 23) (v := ?_) (a' := ?_) #[true, true, false, false, true, false, false, false, false, false, false, false, false, false, false, false, false, false, false, false, false, false, false] rfl rfl (any_of HT_.out (by kernel_rfl)) (fun _ _ _ h => h) (Or.inl ⟨by rfl, ?_⟩) ?_ ?_
                    rotate_left
                    · intro w'
                      go_simp
                      with_reducible rfl
                    rotate_left
                    · simp only [Act.put, List.setIfInBounds_toArray, List.set_cons_zero, List.set_cons_succ, i64_w, i32_w]
                      rfl
                    refine pure_ (i := 5) (N := some 24) (v := ?_) (a' := ?_) #[true, true, false, false, true, true, false, false, false, false, false, false, false, false, false, false, false, false, false, false, false, false, false] rfl rfl (any_of HT_.out (by kernel_rfl)) (fun _ _ _ h => h) (Or.inl ⟨by rfl, ?_⟩) ?_ ?_
                    rotate_left
                    · intro w'
                      go_simp
                      with_reducible rfl
                    rotate_left
                    · simp only [Act.put, List.setIfInBounds_toArray, List.set_cons_zero, List.set_cons_succ, i64_w, i32_w]
                      rfl
                    refine pure_ (i := 10) (N := some 29) (v := ?_) (a' := ?_) #[true, true, false, false, true, true, false, false, false, false, true, false, false, false, false, false, false, false, false, false, false, false, false] rfl rfl (any_of HT_.out (by kernel_rfl)) (fun _ _ _ h => h) (Or.inl ⟨by rfl, ?_⟩) ?_ ?_
                    rotate_left
                    · intro w'
                      go_simp
                      with_reducible rfl
                    rotate_left
                    · simp only [Act.put, List.setIfInBounds_toArray, List.set_cons_zero, List.set_cons_succ, i64_w, i32_w]
                      rfl
                    refine pure_ (i := 11) (N := some 30) (v := ?_) (a' := ?_) #[true, true, false, false, true, true, false, false, false, false, true, true, false, false, false, false, false, false, false, false, false, false, false] rfl rfl (any_of HT_.out (by kernel_rfl)) (fun _ _ _ h => h) (Or.inl ⟨by rfl, ?_⟩) ?_ ?_
                    rotate_left
                    · intro w'
                      go_simp
                      with_reducible rfl
                    rotate_left
                    · simp only [Act.put, List.setIfInBounds_toArray, List.set_cons_zero, List.set_cons_succ, i64_w, i32_w]
                      rfl
                    refine pure_ (i := 16) (N := some 35) (v := ?_) (a' := ?_) #[true, true, false, false, true, true, false, false, false, false, true, true, false, false, false, false, true, false, false, false, false, false, false] rfl rfl (any_of HT_.out (by kernel_rfl)) (fun _ _ _ h => h) (Or.inl ⟨by rfl, ?_⟩) ?_ ?_
                    rotate_left
                    · intro w'
                      go_simp
                      with_reducible rfl
                    rotate_left
                    · simp only [Act.put, List.setIfInBounds_toArray, List.set_cons_zero, List.set_cons_succ, i64_w, i32_w]
                      rfl
                    refine pure_ (i := 17) (N := some 36) (v := ?_) (a' := ?_) #[true, true, false, false, true, true, false, false, false, false, true, true, false, false, false, false, true, true, false, false, false, false, false] rfl rfl (any_of HT_.out (by kernel_rfl)) (fun _ _ _ h => h) (Or.inl ⟨by rfl, ?_⟩) ?_ ?_
                    rotate_left
                    · intro w'
                      go_simp
                      with_reducible rfl
                    rotate_left
                    · simp only [Act.put, List.setIfInBounds_toArray, List.set_cons_zero, List.set_cons_succ, i64_w, i32_w]
                      rfl
                    refine take_ (i := 2) (N := some 21) (v := ?_) (a' := ?_) #[true, true, true, false, true, true, false, false, false, false, true, true, false, false, false, false, true, true, false, false, false, false, false] rfl rfl (take_ofW HT_.out HW_.out (by kernel_rfl)) (fun _ _ _ h => h) (Or.inl ⟨by rfl, ?_⟩) hHeld ?_ ?_
                    rotate_left
                    · rintro w' ⟨s0, s1, s2, s3⟩
                      go_simp
                      with_reducible rfl
                    rotate_left
                    · simp only [Act.put, List.setIfInBounds_toArray, List.set_cons_zero, List.set_cons_succ, i64_w, i32_w]
                      rfl
                    refine pure_ (i := 3) (N := some 22) (v := ?_) (a' := ?_) #[true, true, true, true, true, true, false, false, false, false, true, true, false, false, false, false, true, true, false, false, false, false, false] rfl rfl (any_of HT_.out (by kernel_rfl)) (fun _ _ _ h => h) (Or.inl ⟨by rfl, ?_⟩) ?_ ?_
                    rotate_left
                    · intro w'
                      go_simp
                      with_reducible rfl
                    rotate_left
                    · simp only [Act.put, List.setIfInBounds_toArray, List.set_cons_zero, List.set_cons_succ, i64_w, i32_w]
                      rfl
                    refine take_ (i := 6) (N := some 25) (v := ?_) (a' := ?_) #[true, true, true, true, true, true, true, false, false, false, true, true, false, false, false, false, true, true, false, false, false, false, false] rfl rfl (take_ofW HT_.out HW_.out (by kernel_rfl)) (fun _ _ _ h => h) (Or.inl ⟨by rfl, ?_⟩) hHeld ?_ ?_
                    rotate_left
                    · rintro w' ⟨s0, s1, s2, s3⟩
                      go_simp
                      with_reducible rfl
                    rotate_left
                    · simp only [Act.put, List.setIfInBounds_toArray, List.set_cons_zero, List.set_cons_succ, i64_w, i32_w]
                      rfl
                    refine pure_ (i := 7) (N := some 26) (v := ?_) (a' := ?_) #[true, true, true, true, true, true, true, true, false, false, true, true, false, false, false, false, true, true, false, false, false, false, false] rfl rfl (any_of HT_.out (by kernel_rfl)) (fun _ _ _ h => h) (Or.inl ⟨by rfl, ?_⟩) ?_ ?_
                    rotate_left
                    · intro w'
                      go_simp
                      with_reducible rfl
                    rotate_left
                    · simp only [Act.put, List.setIfInBounds_toArray, List.set_cons_zero, List.set_cons_succ, i64_w, i32_w]
                      rfl
                    refine pure_ (i := 8) (N := some 27) (v := ?_) (a' := ?_) #[true, true, true, true, true, true, true, true, true, false, true, true, false, false, false, false, true, true, false, false, false, false, false] rfl rfl (any_of HT_.out (by kernel_rfl)) (fun _ _ _ h => h) (Or.inl ⟨by rfl, ?_⟩) ?_ ?_
                    rotate_left
                    · intro w'
                      go_simp
                      with_reducible rfl
                    rotate_left
                    · simp only [Act.put, List.setIfInBounds_toArray, List.set_cons_zero, List.set_cons_succ, i64_w, i32_w]
                      rfl
                    refine pure_ (i := 9) (N := some 28) (v := ?_) (a' := ?_) #[true, true, true, true, true, true, true, true, true, true, true, true, false, false, false, false, true, true, false, false, false, false, false] rfl rfl (any_of HT_.out (by kernel_rfl)) (fun _ _ _ h => h) (Or.inl ⟨by rfl, ?_⟩) ?_ ?_
                    rotate_left
                    · intro w'
                      go_simp
                      with_reducible rfl
                    rotate_left
                    · simp only [Act.put, List.setIfInBounds_toArray, List.set_cons_zero, List.set_cons_succ, i64_w, i32_w]
                      rfl
                    refine take_ (i := 12) (N := some 31) (v := ?_) (a' := ?_) #[true, true, true, true, true, true, true, true, true, true, true, true, true, false, false, false, true, true, false, false, false, false, false] rfl rfl (take_ofW HT_.out HW_.out (by kernel_rfl)) (fun _ _ _ h => h) (Or.inl ⟨by rfl, ?_⟩) hHeld ?_ ?_
                    rotate_left
                    · rintro w' ⟨s0, s1, s2, s3⟩
                      go_simp
                      with_reducible rfl
                    rotate_left
                    · simp only [Act.put, List.setIfInBounds_toArray, List.set_cons_zero, List.set_cons_succ, i64_w, i32_w]
                      rfl
                    refine pure_ (i := 13) (N := some 32) (v := ?_) (a' := ?_) #[true, true, true, true, true, true, true, true, true, true, true, true, true, true, false, false, true, true, false, false, false, false, false] rfl rfl (any_of HT_.out (by kernel_rfl)) (fun _ _ _ h => h) (Or.inl ⟨by rfl, ?_⟩) ?_ ?_
                    rotate_left
                    · intro w'
                      go_simp
                      with_reducible rfl
                    rotate_left
                    · simp only [Act.put, List.setIfInBounds_toArray, List.set_cons_zero, List.set_cons_succ, i64_w, i32_w]
                      rfl
                    refine pure_ (i := 14) (N := some 33) (v := ?_) (a' := ?_) #[true, true, true, true, true, true, true, true, true, true, true, true, true, true, true, false, true, true, false, false, false, false, false] rfl rfl (any_of HT_.out (by kernel_rfl)) (fun _ _ _ h => h) (Or.inl ⟨by rfl, ?_⟩) ?_ ?_
                    rotate_left
                    · intro w'
                      go_simp
                      with_reducible rfl
                    rotate_left
                    · simp only [Act.put, List.setIfInBounds_toArray, List.set_cons_zero, List.set_cons_succ, i64_w, i32_w]
                      rfl
                    refine pure_ (i := 15) (N := some 34) (v := ?_) (a' := ?_) #[true, true, true, true, true, true, true, true, true, true, true, true, true, true, true, true, true, true, false, false, false, false, false] rfl rfl (any_of HT_.out (by kernel_rfl)) (fun _ _ _ h => h) (Or.inl ⟨by rfl, ?_⟩) ?_ ?_
                    rotate_left
                    · intro w'
                      go_simp
                      with_reducible rfl
                    rotate_left
                    · simp only [Act.put, List.setIfInBounds_toArray, List.set_cons_zero, List.set_cons_succ, i64_w, i32_w]
                      rfl
                    refine take_ (i := 18) (N := some 37) (v := ?_) (a' := ?_) #[true, true, true, true, true, true, true, true, true, true, true, true, true, true, true, true, true, true, true, false, false, false, false] rfl rfl (take_ofW HT_.out HW_.out (by kernel_rfl)) (fun _ _ _ h => h) (Or.inl ⟨by rfl, ?_⟩) hHeld ?_ ?_
                    rotate_left
                    · rintro w' ⟨s0, s1, s2, s3⟩
                      go_simp
                      with_reducible rfl
                    rotate_left
                    · simp only [Act.put, List.setIfInBounds_toArray, List.set_cons_zero, List.set_cons_succ, i64_w, i32_w]
                      rfl
                    refine pure_ (i := 19) (N := some 38) (v := ?_) (a' := ?_) #[true, true, true, true, true, true, true, true, true, true, true, true, true, true, true, true, true, true, true, true, false, false, false] rfl rfl (any_of HT_.out (by kernel_rfl)) (fun _ _ _ h => h) (Or.inl ⟨by rfl, ?_⟩) ?_ ?_
                    rotate_left
                    · intro w'
                      go_simp
                      with_reducible rfl
                    rotate_left
                    · simp only [Act.put, List.setIfInBounds_toArray, List.set_cons_zero, List.set_cons_succ, i64_w, i32_w]
                      rfl
                    refine pure_ (i := 20) (N := some 39) (v := ?_) (a' := ?_) #[true, true, true, true, true, true, true, true, true, true, true, true, true, true, true, true, true, true, true, true, true, false, false] rfl rfl (any_of HT_.out (by kernel_rfl)) (fun _ _ _ h => h) (Or.inl ⟨by rfl, ?_⟩) ?_ ?_
                    rotate_left
                    · intro w'
                      go_simp
                      with_reducible rfl
                    rotate_left
                    · simp only [Act.put, List.setIfInBounds_toArray, List.set_cons_zero, List.set_cons_succ, i64_w, i32_w]
                      rfl
                    refine pure_ (i := 21) (N := some 40) (v := ?_) (a' := ?_) #[true, true, true, true, true, true, true, true, true, true, true, true, true, true, true, true, true, true, true, true, true, true, false] rfl rfl (any_of HT_.out (by kernel_rfl)) (fun _ _ _ h => h) (Or.inl ⟨by rfl, ?_⟩) ?_ ?_
                    rotate_left
                    · intro w'
                      go_simp
                      with_reducible rfl
                    rotate_left
                    · simp only [Act.put, List.setIfInBounds_toArray, List.set_cons_zero, List.set_cons_succ, i64_w, i32_w]
                      rfl
                    refine pure_ (i := 22) (N := some 7) (v := ?_) (a' := ?_) #[true, true, true, true, true, true, true, true, true, true, true, true, true, true, true, true, true, true, true, true, true, true, true] rfl rfl (any_of HT_.out (by kernel_rfl)) (fun _ _ _ h => h) (Or.inl ⟨by rfl, ?_⟩) ?_ ?_
                    rotate_left
                    · intro w'
                      go_simp
                      with_reducible rfl
                    rotate_left
                    · simp only [Act.put, List.setIfInBounds_toArray, List.set_cons_zero, List.set_cons_succ, i64_w, i32_w]
                      rfl
                    refine done_ (done_of HT_.out (by kernel_rfl)) ?_
                    go_upto_region 6 with (fail)
                    go_cut [49] (fun v49 wc => ∃ (kq : Nat) (x49_8 : Bool), v49 = .bool x49_8 ∧ Aside0 (noonmarkref29_Read.j1 kq l0 x4_1 x5_1 y168 (wrap64 ((wrap64 ((wrap64 ((wrap64 (rd y168 2)) + (wrap64 ((wrap64 (rd y168 3)) * 256)))) + (wrap64 ((wrap64 (rd y168 4)) * 65536)))) + (wrap64 ((wrap64 (rd y168 5)) * 16777216)))) x49_8 = some (r1, r2)) ∧ Aside0 (kq ≤ k1) ∧ Aside0 (Kd.V (Kd.int .u8) 5 wc w.heap.size (fun k_ => (P0_ k_ ∨ w.heap.size ≤ k_) ∧ some k_ ≠ (u4 : Value).ownBlock) (.slice A0 l0.length c0) l0) ∧ Aside0 (Kd.N k24 24 wc w.heap.size (fun k_ => (P0_ k_ ∨ w.heap.size ≤ k_)) u4 x4_1) ∧ Aside0 (Kd.V (Kd.int .u8) 5 wc w.heap.size (fun k_ => (P0_ k_ ∨ w.heap.size ≤ k_) ∧ some k_ ≠ (u4 : Value).ownBlock) (.slice (some ad173) y168.length c10) y168) ∧ Aside0 (Below w.heap.size w wc))
                    case first =>
                      have H := HC9.out
                      clear HC9
                      by_cases c12 : (wrap64 ((wrap64 ((wrap64 ((wrap64 (rd y168 2)) + (wrap64 ((wrap64 (rd y168 3)) * 256)))) + (wrap64 ((wrap64 (rd y168 4)) * 65536)))) + (wrap64 ((wrap64 (rd y168 5)) * 16777216)))) > 100000
                      · rw [if_pos c12] at H
                        have c12b0 : decide (100000 < (wrap64 ((wrap64 ((wrap64 ((wrap64 (rd y168 2)) + (wrap64 ((wrap64 (rd y168 3)) * 256)))) + (wrap64 ((wrap64 (rd y168 4)) * 65536)))) + (wrap64 ((wrap64 (rd y168 5)) * 16777216))))) = true := decide_eq_true c12
                        clear c12
                        (first | rw [c12b0] | (simp only [i64_w, i32_w]; rw [c12b0]) | skip)
                        have H' := Aside0.mk H
                        clear H
                        go_wp2
                        go_meet
                        case rel => exact ⟨_, (true), (by first | rfl | (simp; done) | (simp [*]; done)), H', ⟨by have := HK1.out; first | omega | exact Nat.le_refl _⟩, ⟨by (with_reducible repeat (first | apply Kd.V_alloc | apply Kd.V_drewN | apply Kd.V_drew)); exact HO_0.out⟩, ⟨by (with_reducible repeat (first | apply Kd.N_alloc | apply Kd.N_drewN | apply Kd.N_drew)); exact HO_4.out⟩, ⟨by (with_reducible repeat (first | apply Kd.V_alloc | apply Kd.V_drewN | apply Kd.V_drew)); exact HO172.out⟩, ⟨by repeat (first | (with_reducible first | exact HB.out | apply below_alloc | apply pw_below_drewN | apply below_drew1) | exact HB.out)⟩⟩
                      · rw [if_neg c12] at H
                        have c12b0 : decide (100000 < (wrap64 ((wrap64 ((wrap64 ((wrap64 (rd y168 2)) + (wrap64 ((wrap64 (rd y168 3)) * 256)))) + (wrap64 ((wrap64 (rd y168 4)) * 65536)))) + (wrap64 ((wrap64 (rd y168 5)) * 16777216))))) = false := decide_eq_false c12
                        clear c12
                        (first | rw [c12b0] | (simp only [i64_w, i32_w]; rw [c12b0]) | skip)
                        have H' := Aside0.mk H
                        clear H
                        go_wp2
                        go_meet
                        case rel => exact ⟨_, (decide ((y168.length : Int) < (wrap64 ((wrap64 ((wrap64 ((wrap64 ((wrap64 (rd y168 2)) + (wrap64 ((wrap64 (rd y168 3)) * 256)))) + (wrap64 ((wrap64 (rd y168 4)) * 65536)))) + (wrap64 ((wrap64 (rd y168 5)) * 16777216)))) + 10)))), (by first | rfl | (simp; done) | (simp [*]; done)), H', ⟨by have := HK1.out; first | omega | exact Nat.le_refl _⟩, ⟨by (with_reducible repeat (first | apply Kd.V_alloc | apply Kd.V_drewN | apply Kd.V_drew)); exact HO_0.out⟩, ⟨by (with_reducible repeat (first | apply Kd.N_alloc | apply Kd.N_drewN | apply Kd.N_drew)); exact HO_4.out⟩, ⟨by (with_reducible repeat (first | apply Kd.V_alloc | apply Kd.V_drewN | apply Kd.V_drew)); exact HO172.out⟩, ⟨by repeat (first | (with_reducible first | exact HB.out | apply below_alloc | apply pw_below_drewN | apply below_drew1) | exact HB.out)⟩⟩
                    case rest =>
                      clear HC9
                      try clear c1
                      try clear p1
                      try clear q1
                      try clear hx1
                      try clear qi1
                      try clear c2
                      try clear c2b0
                      try clear p2
                      try clear c3
                      try clear c3b0
                      try clear c3b1
                      try clear c4
                      try clear c4b0
                      try clear c4b1
                      try clear c5
                      try clear c5b0
                      try clear c5b1
                      try clear c6
                      try clear c6b0
                      try clear c6b1
                      try clear p6
                      try clear c7
                      try clear c7b0
                      try clear c7b1
                      try clear c8
                      try clear c8b0
                      try clear c8b1
                      try clear c10
                      try clear q10
                      try clear c12
                      try clear c12b0
                      try clear hx173_0
                      try clear hx174_0
                      try clear hx175_0
                      try clear hx176_0
                      try clear p173
                      try clear p174
                      try clear p175
                      try clear p176
                      try clear q010
                      try clear q10
                      try clear q173
                      try clear q174
                      try clear q175
                      try clear q176
                      obtain ⟨kq, x49_8, rfl, HA, HJ8, HO_0, HO_4, HO_6, HB⟩ := hcut
                      cases kq with
                      | zero => exact absurd HA.out (by simp [noonmarkref29_Read.j1])
                      | succ kj8 =>
                        have H := HA.out
                        clear HA
                        simp only [noonmarkref29_Read.j1] at H
                        by_cases c13 : x49_8 = true
                        · subst c13
                          have H1 : (some (x4_1, x5_1)) = some (r1, r2) := by rw [if_pos rfl] at H; exact H
                          clear H
                          have H := H1
                          clear H1
                          simp only [Option.some.injEq, Prod.mk.injEq] at H
                          obtain ⟨rfl, rfl⟩ := H
                          go_wp2
                          go_ret2
                          exact ⟨_, by first | rfl | (simp [errW_none, errW_some] <;> rfl) | (simp [*, errW_none, errW_some] <;> rfl), by (with_reducible repeat (first | apply Kd.N_alloc | apply Kd.N_drewN | apply Kd.N_drew)); exact HO_4.out, by repeat (first | (with_reducible first | exact HB.out | apply below_alloc | apply pw_below_drewN | apply below_drew1) | exact HB.out)⟩
                        · replace c13 := Bool.eq_false_iff.mpr c13
                          subst c13
                          have H1 : (if 1 < (y168.length : Int) then (if 6 ≤ (wrap64 (6 + (wrap64 ((wrap64 ((wrap64 ((wrap64 (rd y168 2)) + (wrap64 ((wrap64 (rd y168 3)) * 256)))) + (wrap64 ((wrap64 (rd y168 4)) * 65536)))) + (wrap64 ((wrap64 (rd y168 5)) * 16777216)))))) then (if (wrap64 (6 + (wrap64 ((wrap64 ((wrap64 ((wrap64 (rd y168 2)) + (wrap64 ((wrap64 (rd y168 3)) * 256)))) + (wrap64 ((wrap64 (rd y168 4)) * 65536)))) + (wrap64 ((wrap64 (rd y168 5)) * 16777216)))))) ≤ (y168.length : Int) then ((some ((y168.take ((wrap64 (6 + (wrap64 ((wrap64 ((wrap64 ((wrap64 (rd y168 2)) + (wrap64 ((wrap64 (rd y168 3)) * 256)))) + (wrap64 ((wrap64 (rd y168 4)) * 65536)))) + (wrap64 ((wrap64 (rd y168 5)) * 16777216)))))) : Int).toNat).drop 6 : List Int)).bind fun y178 => ((noonmarkref29_Frame.f kj8 (wrap64 (rd y168 1)) y178).bind fun bt184 => (if bt184.2 = 0 then (if 0 ≤ (wrap64 ((wrap64 ((wrap64 ((wrap64 ((wrap64 (rd y168 2)) + (wrap64 ((wrap64 (rd y168 3)) * 256)))) + (wrap64 ((wrap64 (rd y168 4)) * 65536)))) + (wrap64 ((wrap64 (rd y168 5)) * 16777216)))) + 10)) then (if (wrap64 ((wrap64 ((wrap64 ((wrap64 ((wrap64 (rd y168 2)) + (wrap64 ((wrap64 (rd y168 3)) * 256)))) + (wrap64 ((wrap64 (rd y168 4)) * 65536)))) + (wrap64 ((wrap64 (rd y168 5)) * 16777216)))) + 10)) ≤ (y168.length : Int) then ((noonmarkref01_Same.f kj8 bt184.1 (y168.take ((wrap64 ((wrap64 ((wrap64 ((wrap64 ((wrap64 (rd y168 2)) + (wrap64 ((wrap64 (rd y168 3)) * 256)))) + (wrap64 ((wrap64 (rd y168 4)) * 65536)))) + (wrap64 ((wrap64 (rd y168 5)) * 16777216)))) + 10)) : Int).toNat)).bind fun t193 => (if t193 = true then (if x4_1.length < 4398046511104 then (noonmarkref29_Read.l0 kj8 l0 (x4_1 ++ [(⟨wrap64 (rd y168 1), y178⟩ : S24)]) (wrap64 ((wrap64 (x5_1 + (wrap64 ((wrap64 ((wrap64 ((wrap64 (rd y168 2)) + (wrap64 ((wrap64 (rd y168 3)) * 256)))) + (wrap64 ((wrap64 (rd y168 4)) * 65536)))) + (wrap64 ((wrap64 (rd y168 5)) * 16777216)))))) + 10))) else (none)) else (some (x4_1, x5_1)))) else (none)) else (none)) else (some (x4_1, x5_1))))) else (none)) else (none)) else (none)) = some (r1, r2) := by rw [if_neg (show ¬ (false = true) by decide)] at H; exact H
                          clear H
                          have H := H1
                          clear H1
                          by_cases c14 : 1 < (y168.length : Int)
                          · rw [if_pos c14] at H
                            have c14b0 : decide (1 < (y168.length : Int)) = true := decide_eq_true c14
                            have c14b1 : decide (1 < y168.length) = true := decide_eq_true (by omega)
                            clear c14
                            by_cases c15 : 6 ≤ (wrap64 (6 + (wrap64 ((wrap64 ((wrap64 ((wrap64 (rd y168 2)) + (wrap64 ((wrap64 (rd y168 3)) * 256)))) + (wrap64 ((wrap64 (rd y168 4)) * 65536)))) + (wrap64 ((wrap64 (rd y168 5)) * 16777216))))))
                            · rw [if_pos c15] at H
                              have c15b0 := eq_true c15
                              have c15b1 : decide (6 ≤ (wrap64 (6 + (wrap64 ((wrap64 ((wrap64 ((wrap64 (rd y168 2)) + (wrap64 ((wrap64 (rd y168 3)) * 256)))) + (wrap64 ((wrap64 (rd y168 4)) * 65536)))) + (wrap64 ((wrap64 (rd y168 5)) * 16777216))))))) = true := decide_eq_true c15
                              by_cases c16 : (wrap64 (6 + (wrap64 ((wrap64 ((wrap64 ((wrap64 (rd y168 2)) + (wrap64 ((wrap64 (rd y168 3)) * 256)))) + (wrap64 ((wrap64 (rd y168 4)) * 65536)))) + (wrap64 ((wrap64 (rd y168 5)) * 16777216)))))) ≤ (y168.length : Int)
                              · rw [if_pos c16] at H
                                have c16b0 := eq_true c16
                                have c16b1 : decide ((wrap64 (6 + (wrap64 ((wrap64 ((wrap64 ((wrap64 (rd y168 2)) + (wrap64 ((wrap64 (rd y168 3)) * 256)))) + (wrap64 ((wrap64 (rd y168 4)) * 65536)))) + (wrap64 ((wrap64 (rd y168 5)) * 16777216)))))) ≤ (y168.length : Int)) = true := decide_eq_true c16
                                obtain ⟨y178, hy178⟩ : ∃ y_ : List Int, y_ = ((y168.take ((wrap64 (6 + (wrap64 ((wrap64 ((wrap64 ((wrap64 (rd y168 2)) + (wrap64 ((wrap64 (rd y168 3)) * 256)))) + (wrap64 ((wrap64 (rd y168 4)) * 65536)))) + (wrap64 ((wrap64 (rd y168 5)) * 16777216)))))) : Int).toNat).drop 6) := ⟨_, rfl⟩
                                replace H : ((noonmarkref29_Frame.f kj8 (wrap64 (rd y168 1)) y178).bind fun bt184 => (if bt184.2 = 0 then (if 0 ≤ (wrap64 ((wrap64 ((wrap64 ((wrap64 ((wrap64 (rd y168 2)) + (wrap64 ((wrap64 (rd y168 3)) * 256)))) + (wrap64 ((wrap64 (rd y168 4)) * 65536)))) + (wrap64 ((wrap64 (rd y168 5)) * 16777216)))) + 10)) then (if (wrap64 ((wrap64 ((wrap64 ((wrap64 ((wrap64 (rd y168 2)) + (wrap64 ((wrap64 (rd y168 3)) * 256)))) + (wrap64 ((wrap64 (rd y168 4)) * 65536)))) + (wrap64 ((wrap64 (rd y168 5)) * 16777216)))) + 10)) ≤ (y168.length : Int) then ((noonmarkref01_Same.f kj8 bt184.1 (y168.take ((wrap64 ((wrap64 ((wrap64 ((wrap64 ((wrap64 (rd y168 2)) + (wrap64 ((wrap64 (rd y168 3)) * 256)))) + (wrap64 ((wrap64 (rd y168 4)) * 65536)))) + (wrap64 ((wrap64 (rd y168 5)) * 16777216)))) + 10)) : Int).toNat)).bind fun t193 => (if t193 = true then (if x4_1.length < 4398046511104 then (noonmarkref29_Read.l0 kj8 l0 (x4_1 ++ [(⟨wrap64 (rd y168 1), y178⟩ : S24)]) (wrap64 ((wrap64 (x5_1 + (wrap64 ((wrap64 ((wrap64 ((wrap64 (rd y168 2)) + (wrap64 ((wrap64 (rd y168 3)) * 256)))) + (wrap64 ((wrap64 (rd y168 4)) * 65536)))) + (wrap64 ((wrap64 (rd y168 5)) * 16777216)))))) + 10))) else (none)) else (some (x4_1, x5_1)))) else (none)) else (none)) else (some (x4_1, x5_1)))) = some (r1, r2) := by first | (rw [hy178]; with_reducible exact H) | (have H2_ := (Option.bind_some _ _).symm.trans H; rw [hy178]; with_reducible exact H2_) | (have H2_ := (Option.bind_some _ _).symm.trans H; with_reducible exact H2_) | with_reducible exact H | (rw [hy178]; exact H) | exact H
                                have Ny178 := Aside0.mk hy178
                                clear hy178
                                replace H := Option.bind_eq_some_iff.mp H
                                obtain ⟨⟨t184, t187⟩, A170, H⟩ := H
                                replace H : (if t187 = 0 then (if 0 ≤ (wrap64 ((wrap64 ((wrap64 ((wrap64 ((wrap64 (rd y168 2)) + (wrap64 ((wrap64 (rd y168 3)) * 256)))) + (wrap64 ((wrap64 (rd y168 4)) * 65536)))) + (wrap64 ((wrap64 (rd y168 5)) * 16777216)))) + 10)) then (if (wrap64 ((wrap64 ((wrap64 ((wrap64 ((wrap64 (rd y168 2)) + (wrap64 ((wrap64 (rd y168 3)) * 256)))) + (wrap64 ((wrap64 (rd y168 4)) * 65536)))) + (wrap64 ((wrap64 (rd y168 5)) * 16777216)))) + 10)) ≤ (y168.length : Int) then ((noonmarkref01_Same.f kj8 t184 (y168.take ((wrap64 ((wrap64 ((wrap64 ((wrap64 ((wrap64 (rd y168 2)) + (wrap64 ((wrap64 (rd y168 3)) * 256)))) + (wrap64 ((wrap64 (rd y168 4)) * 65536)))) + (wrap64 ((wrap64 (rd y168 5)) * 16777216)))) + 10)) : Int).toNat)).bind fun t193 => (if t193 = true then (if x4_1.length < 4398046511104 then (noonmarkref29_Read.l0 kj8 l0 (x4_1 ++ [(⟨wrap64 (rd y168 1), y178⟩ : S24)]) (wrap64 ((wrap64 (x5_1 + (wrap64 ((wrap64 ((wrap64 ((wrap64 (rd y168 2)) + (wrap64 ((wrap64 (rd y168 3)) * 256)))) + (wrap64 ((wrap64 (rd y168 4)) * 65536)))) + (wrap64 ((wrap64 (rd y168 5)) * 16777216)))))) + 10))) else (none)) else (some (x4_1, x5_1)))) else (none)) else (none)) else (some (x4_1, x5_1))) = some (r1, r2) := H
                                have A17 := Aside0.mk A170
                                clear A170
                                by_cases c18 : t187 = 0
                                · rw [if_pos c18] at H
                                  have c18b0 : (t187 == 0) = true := beq_iff_eq.mpr c18
                                  have c18b1 : (t187 != 0) = false := bne_eq_false_iff_eq.mpr c18
                                  clear c18
                                  obtain ⟨ji19, hji19⟩ : ∃ j_ : Int, (wrap64 ((wrap64 ((wrap64 ((wrap64 ((wrap64 (rd y168 2)) + (wrap64 ((wrap64 (rd y168 3)) * 256)))) + (wrap64 ((wrap64 (rd y168 4)) * 65536)))) + (wrap64 ((wrap64 (rd y168 5)) * 16777216)))) + 10)) = j_ := ⟨_, rfl⟩
                                  replace H : (if 0 ≤ (ji19) then (if (ji19) ≤ (y168.length : Int) then ((noonmarkref01_Same.f kj8 t184 (y168.take ((ji19) : Int).toNat)).bind fun t193 => (if t193 = true then (if x4_1.length < 4398046511104 then (noonmarkref29_Read.l0 kj8 l0 (x4_1 ++ [(⟨wrap64 (rd y168 1), y178⟩ : S24)]) (wrap64 ((wrap64 (x5_1 + (wrap64 ((wrap64 ((wrap64 ((wrap64 (rd y168 2)) + (wrap64 ((wrap64 (rd y168 3)) * 256)))) + (wrap64 ((wrap64 (rd y168 4)) * 65536)))) + (wrap64 ((wrap64 (rd y168 5)) * 16777216)))))) + 10))) else (none)) else (some (x4_1, x5_1)))) else (none)) else (none)) = some (r1, r2) := by first | (rw [hji19] at H; exact H) | (simp only [hji19] at H ⊢; exact H)
                                  (try rw [hji19] at A17)
                                  have hji19w : (IntKind.i64.wrap ((wrap64 ((wrap64 ((wrap64 ((wrap64 (rd y168 2)) + (wrap64 ((wrap64 (rd y168 3)) * 256)))) + (wrap64 ((wrap64 (rd y168 4)) * 65536)))) + (wrap64 ((wrap64 (rd y168 5)) * 16777216)))) + 10)) = ji19 := (i64_w _).trans hji19
                                  by_cases c20 : 0 ≤ (ji19)
                                  · rw [if_pos c20] at H
                                    have c20b0 := eq_true c20
                                    have c20b1 : decide (0 ≤ (ji19)) = true := decide_eq_true c20
                                    clear c20
                                    by_cases c21 : (ji19) ≤ (y168.length : Int)
                                    · rw [if_pos c21] at H
                                      have c21b0 := eq_true c21
                                      have c21b1 : decide ((ji19) ≤ (y168.length : Int)) = true := decide_eq_true c21
                                      clear c21
                                      obtain ⟨y188, hy188⟩ : ∃ y_ : List Int, y_ = (y168.take ((ji19) : Int).toNat) := ⟨_, rfl⟩
                                      replace H : ((noonmarkref01_Same.f kj8 t184 y188).bind fun t193 => (if t193 = true then (if x4_1.length < 4398046511104 then (noonmarkref29_Read.l0 kj8 l0 (x4_1 ++ [(⟨wrap64 (rd y168 1), y178⟩ : S24)]) (wrap64 ((wrap64 (x5_1 + (wrap64 ((wrap64 ((wrap64 ((wrap64 (rd y168 2)) + (wrap64 ((wrap64 (rd y168 3)) * 256)))) + (wrap64 ((wrap64 (rd y168 4)) * 65536)))) + (wrap64 ((wrap64 (rd y168 5)) * 16777216)))))) + 10))) else (none)) else (some (x4_1, x5_1)))) = some (r1, r2) := by first | (rw [hy188]; with_reducible exact H) | (have H2_ := (Option.bind_some _ _).symm.trans H; rw [hy188]; with_reducible exact H2_) | (have H2_ := (Option.bind_some _ _).symm.trans H; with_reducible exact H2_) | with_reducible exact H | (rw [hy188]; exact H) | exact H
                                      have Ny188 := Aside0.mk hy188
                                      clear hy188
                                      replace H := Option.bind_eq_some_iff.mp H
                                      obtain ⟨t193, A220, H⟩ := H
                                      replace H : (if t193 = true then (if x4_1.length < 4398046511104 then (noonmarkref29_Read.l0 kj8 l0 (x4_1 ++ [(⟨wrap64 (rd y168 1), y178⟩ : S24)]) (wrap64 ((wrap64 (x5_1 + (wrap64 ((wrap64 ((wrap64 ((wrap64 (rd y168 2)) + (wrap64 ((wrap64 (rd y168 3)) * 256)))) + (wrap64 ((wrap64 (rd y168 4)) * 65536)))) + (wrap64 ((wrap64 (rd y168 5)) * 16777216)))))) + 10))) else (none)) else (some (x4_1, x5_1))) = some (r1, r2) := H
                                      have A22 := Aside0.mk A220
                                      clear A220
                                      by_cases c23 : t193 = true
                                      · subst c23
                                        have H1 : (if x4_1.length < 4398046511104 then (noonmarkref29_Read.l0 kj8 l0 (x4_1 ++ [(⟨wrap64 (rd y168 1), y178⟩ : S24)]) (wrap64 ((wrap64 (x5_1 + (wrap64 ((wrap64 ((wrap64 ((wrap64 (rd y168 2)) + (wrap64 ((wrap64 (rd y168 3)) * 256)))) + (wrap64 ((wrap64 (rd y168 4)) * 65536)))) + (wrap64 ((wrap64 (rd y168 5)) * 16777216)))))) + 10))) else (none)) = some (r1, r2) := by rw [if_pos rfl] at H; exact H
                                        clear H
                                        have H := H1
                                        clear H1
                                        by_cases c24 : x4_1.length < 4398046511104
                                        · rw [if_pos c24] at H
                                          have LMc24 := Aside0.mk c24
                                          clear c24
                                          obtain ⟨y194, hy194⟩ : ∃ y_ : List (S24), y_ = (x4_1 ++ [(⟨wrap64 (rd y168 1), y178⟩ : S24)]) := ⟨_, rfl⟩
                                          replace H : (noonmarkref29_Read.l0 kj8 l0 y194 (wrap64 ((wrap64 (x5_1 + (wrap64 ((wrap64 ((wrap64 ((wrap64 (rd y168 2)) + (wrap64 ((wrap64 (rd y168 3)) * 256)))) + (wrap64 ((wrap64 (rd y168 4)) * 65536)))) + (wrap64 ((wrap64 (rd y168 5)) * 16777216)))))) + 10))) = some (r1, r2) := by first | (rw [hy194]; with_reducible exact H) | (have H2_ := (Option.bind_some _ _).symm.trans H; rw [hy194]; with_reducible exact H2_) | (have H2_ := (Option.bind_some _ _).symm.trans H; with_reducible exact H2_) | with_reducible exact H | (rw [hy194]; exact H) | exact H
                                          have Ny194 := Aside0.mk hy194
                                          clear hy194
                                          have H' := Aside0.mk H
                                          clear H
                                          try go_wp2
                                          have n0_ := Aside0.mk (Kd.V_drew HO_0.out)
                                          have n1_ := Aside0.mk (Kd.N_drew HO_4.out)
                                          have n2_ := Aside0.mk (Kd.V_drew HO_6.out)
                                          have n3_ := Aside0.mk (below_drew1 HB.out)
                                          clear HO_0
                                          clear HO_4
                                          clear HO_6
                                          clear HB
                                          have HO_0 := n0_
                                          have HO_4 := n1_
                                          have HO_6 := n2_
                                          have HB := n3_
                                          clear n0_ n1_ n2_ n3_
                                          have p177 : 0 ≤ (1 : Int) := (by omega)
                                          have q177 : 1 < (y168.length : Int) := of_decide_eq_true (by first | (with_reducible assumption) | assumption)
                                          obtain ⟨ad177, e177, hx177_0⟩ := Kd.at_int (Kd.V_reads' HO_6.out).2.2 1 p177 q177
                                          obtain rfl : ad173 = ad177 := (by injection e177)
                                          (try simp only [show (1 : Int).toNat = 1 from rfl, Nat.reduceMul, Nat.reduceEqDiff, Go.Addr.add, ↓reduceIte] at hx177_0)
                                          have qi177 : (1 < y168.length) = True := eq_true (by omega)
                                          (try rw [show ((1 : Int)).toNat = 1 from rfl] at hx177_0)
                                          replace p177 := eq_true p177
                                          replace q177 := eq_true q177
                                          have q26 : ((wrap64 (6 + (wrap64 ((wrap64 ((wrap64 ((wrap64 (rd y168 2)) + (wrap64 ((wrap64 (rd y168 3)) * 256)))) + (wrap64 ((wrap64 (rd y168 4)) * 65536)))) + (wrap64 ((wrap64 (rd y168 5)) * 16777216)))))) : Int) ≤ ((y168.length : Int) : Int) := of_decide_eq_true (by first | (with_reducible assumption) | assumption)
                                          obtain ⟨i026, hi026, _, hsz26, _⟩ := info_parts info5
                                          have hroom26 : y168.length ≤ c10 := (Kd.V_reads' HO_6.out).2.1
                                          have hC26 : Kd.F (Kd.int .u8) _ _ (some ad173) y168.length y168 := (Kd.V_at (base := w.heap.size) HO_6.out).2.2
                                          have ql26 : (6 : Int) ≤ ((wrap64 (6 + (wrap64 ((wrap64 ((wrap64 ((wrap64 (rd y168 2)) + (wrap64 ((wrap64 (rd y168 3)) * 256)))) + (wrap64 ((wrap64 (rd y168 4)) * 65536)))) + (wrap64 ((wrap64 (rd y168 5)) * 16777216)))))) : Int) := of_decide_eq_true (by first | (with_reducible assumption) | assumption)
                                          have hcut26 := cut_mid (P := Try.prog) 22 5 .i64 .i64 Try.underlying22 hi026 1 hsz26 (some ad173) y168.length c10 6 (wrap64 (6 + (wrap64 ((wrap64 ((wrap64 ((wrap64 (rd y168 2)) + (wrap64 ((wrap64 (rd y168 3)) * 256)))) + (wrap64 ((wrap64 (rd y168 4)) * 65536)))) + (wrap64 ((wrap64 (rd y168 5)) * 16777216)))))) (by omega) ql26 q26 hroom26
                                          have hr26 := Kd.F_mid (lo := (6 : Int).toNat) (hi := ((wrap64 (6 + (wrap64 ((wrap64 ((wrap64 ((wrap64 (rd y168 2)) + (wrap64 ((wrap64 (rd y168 3)) * 256)))) + (wrap64 ((wrap64 (rd y168 4)) * 65536)))) + (wrap64 ((wrap64 (rd y168 5)) * 16777216)))))) : Int).toNat) (c := c10) hC26 (by omega) (by omega) hroom26
                                          obtain ⟨A26, hA26⟩ : ∃ A1, A1 = (if c10 = (6 : Int).toNat then (some ad173) else ((some ad173) : Option Addr).map (·.add ((6 : Int).toNat * 1))) := ⟨_, rfl⟩
                                          obtain ⟨c26, hc26⟩ : ∃ c1, c1 = c10 - (6 : Int).toNat := ⟨_, rfl⟩
                                          have hy26 : y178.length = ((wrap64 (6 + (wrap64 ((wrap64 ((wrap64 ((wrap64 (rd y168 2)) + (wrap64 ((wrap64 (rd y168 3)) * 256)))) + (wrap64 ((wrap64 (rd y168 4)) * 65536)))) + (wrap64 ((wrap64 (rd y168 5)) * 16777216)))))) : Int).toNat - (6 : Int).toNat := (by rw [Ny178.out, List.length_drop, List.length_take] <;> omega)
                                          rw [show ((y168).take ((wrap64 (6 + (wrap64 ((wrap64 ((wrap64 ((wrap64 (rd y168 2)) + (wrap64 ((wrap64 (rd y168 3)) * 256)))) + (wrap64 ((wrap64 (rd y168 4)) * 65536)))) + (wrap64 ((wrap64 (rd y168 5)) * 16777216)))))) : Int).toNat).drop (6 : Int).toNat = y178 from Ny178.out.symm] at hr26
                                          replace hr26 : Kd.F (Kd.int .u8) _ _ A26 y178.length y178 := (by rw [hA26]; exact hr26)
                                          rw [← hy26, ← hA26, ← hc26] at hcut26
                                          have HO182 := Aside0.mk (show Kd.V (Kd.int .u8) 5 _ w.heap.size _ (.slice A26 y178.length c26) y178 from Kd.V_mk (by rw [hy26, hc26]; exact Nat.sub_le_sub_right (Nat.le_trans (by omega) hroom26) _) hr26)
                                          have HC182 := Aside0.mk (show y178.length ≤ c26 from by rw [hy26, hc26]; exact Nat.sub_le_sub_right (Nat.le_trans (by omega) hroom26) _)
                                          clear hr26 hC26 hroom26 hi026 hsz26 hc26
                                          have KY26 := Aside0.mk hy26
                                          have KA26 := Aside0.mk hA26
                                          clear hy26 hA26
                                          replace q26 := eq_true q26
                                          refine start_ (n := 11) (S := fun w' => w'.cell? ⟨ad173.block, ad173.off + 1, none⟩ = some (.int .u8 (rd y168 1))) (ds := []) #[false, false, false, false, false, false, false, false, false, false, false] (by kernel_rfl) rfl rfl (hx177_0) (fun hHeld => ?_); refine with_tabW noonmarkref29_Read.tab8 noonmarkref29_Read.bits8 (fun HT_ HW_ => ?_)
                                          generalize wc.drew = w25 at HO_0 HO_4 HO_6 HB HO182 hx177_0 hHeld ⊢
                                          refine pure_ (i := 0) (N := some 52) (v := ?_) (a' := ?_) #[true, false, false, false, false, false, false, false, false, false, false] rfl rfl (any_of HT_.out (by kernel_rfl)) (fun _ _ _ h => h) (Or.inl ⟨by rfl, ?_⟩) ?_ ?_
                                          rotate_left
                                          · intro w'
                                            go_simp
                                            with_reducible rfl
                                          rotate_left
                                          · simp only [Act.put, List.setIfInBounds_toArray, List.set_cons_zero, List.set_cons_succ, i64_w, i32_w]
                                            rfl
                                          refine pure_ (i := 1) (N := some 53) (v := ?_) (a' := ?_) #[true, true, false, false, false, false, false, false, false, false, false] rfl rfl (any_of HT_.out (by kernel_rfl)) (fun _ _ _ h => h) (Or.inl ⟨by rfl, ?_⟩) ?_ ?_
                                          rotate_left
                                          · intro w'
                                            go_simp
                                            with_reducible rfl
                                          rotate_left
                                          · simp only [Act.put, List.setIfInBounds_toArray, List.set_cons_zero, List.set_cons_succ, i64_w, i32_w]
                                            rfl
                                          refine pure_ (i := 4) (N := some 56) (v := ?_) (a' := ?_) #[true, true, false, false, true, false, false, false, false, false, false] rfl rfl (any_of HT_.out (by kernel_rfl)) (fun _ _ _ h => h) (Or.inl ⟨by rfl, ?_⟩) ?_ ?_
                                          rotate_left
                                          · intro w'
                                            go_simp
                                            with_reducible rfl
                                          rotate_left
                                          · simp only [Act.put, List.setIfInBounds_toArray, List.set_cons_zero, List.set_cons_succ, i64_w, i32_w]
                                            rfl
                                          refine pure_ (i := 5) (N := some 57) (v := ?_) (a' := ?_) #[true, true, false, false, true, true, false, false, false, false, false] rfl rfl (any_of HT_.out (by kernel_rfl)) (fun _ _ _ h => h) (Or.inl ⟨by rfl, ?_⟩) ?_ ?_
                                          rotate_left
                                          · intro w'
                                            go_simp
                                            with_reducible rfl
                                          rotate_left
                                          · simp only [Act.put, List.setIfInBounds_toArray, List.set_cons_zero, List.set_cons_succ, i64_w, i32_w]
                                            rfl
                                          refine pure_ (i := 6) (N := some 58) (v := ?_) (a' := ?_) #[true, true, false, false, true, true, true, false, false, false, false] rfl rfl (any_of HT_.out (by kernel_rfl)) (fun _ _ _ h => h) (Or.inl ⟨by rfl, ?_⟩) ?_ ?_
                                          rotate_left
                                          · intro w'
                                            go_simp
                                            with_reducible rfl
                                          rotate_left
                                          · simp only [Act.put, List.setIfInBounds_toArray, List.set_cons_zero, List.set_cons_succ, i64_w, i32_w]
                                            rfl
                                          refine pure_ (i := 7) (N := some 59) (v := ?_) (a' := ?_) #[true, true, false, false, true, true, true, true, false, false, false] rfl rfl (any_of HT_.out (by kernel_rfl)) (fun _ _ _ h => h) (Or.inl ⟨by rfl, ?_⟩) ?_ ?_
                                          rotate_left
                                          · intro w'
                                            go_simp
                                            with_reducible rfl
                                          rotate_left
                                          · simp only [Act.put, List.setIfInBounds_toArray, List.set_cons_zero, List.set_cons_succ, i64_w, i32_w]
                                            rfl
                                          refine take_ (i := 2) (N := some 54) (v := ?_) (a' := ?_) #[true, true, true, false, true, true, true, true, false, false, false] rfl rfl (take_ofW HT_.out HW_.out (by kernel_rfl)) (fun _ _ _ h => h) (Or.inl ⟨by rfl, ?_⟩) hHeld ?_ ?_
                                          rotate_left
                                          · intro w' s0
                                            go_simp
                                            with_reducible rfl
                                          rotate_left
                                          · simp only [Act.put, List.setIfInBounds_toArray, List.set_cons_zero, List.set_cons_succ, i64_w, i32_w]
                                            rfl
                                          refine pure_ (i := 3) (N := some 55) (v := ?_) (a' := ?_) #[true, true, true, true, true, true, true, true, false, false, false] rfl rfl (any_of HT_.out (by kernel_rfl)) (fun _ _ _ h => h) (Or.inl ⟨by rfl, ?_⟩) ?_ ?_
                                          rotate_left
                                          · intro w'
                                            go_simp
                                            with_reducible rfl
                                          rotate_left
                                          · simp only [Act.put, List.setIfInBounds_toArray, List.set_cons_zero, List.set_cons_succ, i64_w, i32_w]
                                            rfl
                                          refine pure_ (i := 8) (N := some 60) (v := ?_) (a' := ?_) #[true, true, true, true, true, true, true, true, true, false, false] rfl rfl (any_of HT_.out (by kernel_rfl)) (fun _ _ _ h => h) (Or.inl ⟨by rfl, ?_⟩) ?_ ?_
                                          rotate_left
                                          · intro w'
                                            go_simp
                                            with_reducible rfl
                                          rotate_left
                                          · simp only [Act.put, List.setIfInBounds_toArray, List.set_cons_zero, List.set_cons_succ, i64_w, i32_w]
                                            rfl
                                          refine one_ (i := 9) (N := some 8) #[true, true, true, true, true, true, true, true, true, true, false] rfl rfl (one_of HT_.out (by kernel_rfl)) (by decide) (fun K hK => ?_)
                                          refine box_step ?hg (N := 8) ?hd (cs := #[.int .i64 0, .slice none 0 0]) (t := 24) ?hr ?_; (case hd => rfl); (case hg => rfl); (case hr => first | (go_simp; done) | (go_simp; rfl))
                                          intro gb183 hg w27 hbox hb
                                          have hlt_ := World.block_lt_of_cell? _ _ hHeld; (try rw [add_block] at hlt_); (try dsimp only at hlt_); rw [← hg] at hlt_; have HLT := Aside0.mk hlt_; clear hlt_
                                          have HS0_ := (hb.cell (World.block_lt_of_cell? _ _ (hHeld))).trans (hHeld)
                                          have n0_ := Aside0.mk (Kd.V_below (Kd.V_elderB (by (with_reducible repeat (first | apply Kd.V_alloc | apply Kd.V_drewN | apply Kd.V_drew)); exact HO_0.out) gb183 (Nat.le_of_eq hg.symm)) hb)
                                          have n1_ := Aside0.mk (Kd.N_below (Kd.N_elderB (by (with_reducible repeat (first | apply Kd.N_alloc | apply Kd.N_drewN | apply Kd.N_drew)); exact HO_4.out) gb183 (Nat.le_of_eq hg.symm)) hb)
                                          have n2_ := Aside0.mk (Kd.V_below (Kd.V_elderB (by (with_reducible repeat (first | apply Kd.V_alloc | apply Kd.V_drewN | apply Kd.V_drew)); exact HO_6.out) gb183 (Nat.le_of_eq hg.symm)) hb)
                                          have n3_ := Aside0.mk (Kd.V_below (Kd.V_elderB (by (with_reducible repeat (first | apply Kd.V_alloc | apply Kd.V_drewN | apply Kd.V_drew)); exact HO182.out) gb183 (Nat.le_of_eq hg.symm)) hb)
                                          have n4_ := Aside0.mk (below_step (by repeat (first | (with_reducible first | exact HB.out | apply below_alloc | apply pw_below_drewN | apply below_drew1) | exact HB.out)) hb)
                                          have n5_ := Aside0.mk (hbox)
                                          have n6_ := Aside0.mk ((by rw [hg]; exact (below_size (by repeat (first | (with_reducible first | exact HB.out | apply below_alloc | apply pw_below_drewN | apply below_drew1) | exact HB.out))) : w.heap.size ≤ gb183))
                                          have n7_ := Aside0.mk ((by rw [hg]; exact (below_size (by repeat (first | (with_reducible first | exact HB.out | apply below_alloc | apply pw_below_drewN | apply below_drew1) | exact HB.out))) : w.heap.size ≤ gb183))
                                          clear HO_0
                                          clear HO_4
                                          clear HO_6
                                          clear HO182
                                          clear HB
                                          have HO_0 := n0_
                                          have HO_4 := n1_
                                          have HO_6 := n2_
                                          have HO182 := n3_
                                          have HB := n4_
                                          have BK183 := n5_
                                          have GW183 := n6_
                                          have GE183 := n7_
                                          clear n0_ n1_ n2_ n3_ n4_ n5_ n6_ n7_
                                          clear hb hbox hg
                                          refine hK.out _ _ (HS0_) (fun hHeld => ?_)
                                          clear hK K
                                          refine norm_ (a' := ?_) ?_ ?_
                                          rotate_left
                                          · show Act.put _ (some 8) _ = _
                                            simp only [Act.put, List.setIfInBounds_toArray, List.set_cons_zero, List.set_cons_succ, i64_w, i32_w]
                                            rfl
                                          refine one_ (i := 10) (N := none) #[true, true, true, true, true, true, true, true, true, true, true] rfl rfl (one_of HT_.out (by kernel_rfl)) (by decide) (fun K hK => ?_)
                                          have hs28 : w27.cell? ⟨gb183, 0, none⟩ = some (.int .i64 0) := (blk_cell BK183.out 0).trans rfl
                                          have hfs28 := blk_frozen BK183.out 0
                                          have hs29 : w27.cell? ⟨gb183, 1, none⟩ = some (.slice none 0 0) := (blk_cell BK183.out 1).trans rfl
                                          have hfs29 := blk_frozen BK183.out 1
                                          refine skip_ (w1 := ?_) (by rfl) rfl ?_ ?_
                                          rotate_left
                                          · go_simp
                                            rfl
                                          refine hK.out _ _ (((cell_far (p := ⟨gb183, _, none⟩) (by first | exact Nat.ne_of_lt HLT.out | (rw [add_block]; exact Nat.ne_of_lt HLT.out) | (show (Addr.add _ _).block ≠ _; rw [add_block]; exact Nat.ne_of_lt HLT.out) | (dsimp only; exact Nat.ne_of_lt HLT.out)) _).trans (((cell_far (p := ⟨gb183, _, none⟩) (by first | exact Nat.ne_of_lt HLT.out | (rw [add_block]; exact Nat.ne_of_lt HLT.out) | (show (Addr.add _ _).block ≠ _; rw [add_block]; exact Nat.ne_of_lt HLT.out) | (dsimp only; exact Nat.ne_of_lt HLT.out)) _).trans (hHeld))))) (fun hHeld => ?_)
                                          clear hK K
                                          refine done_ (done_of HT_.out (by kernel_rfl)) ?_
                                          have hcz30_0 : w27.cell? ⟨gb183, 0, none⟩ = some (.int .i64 0) := (blk_cell BK183.out 0).trans rfl
                                          have hcz30_1 : w27.cell? ⟨gb183, 1, none⟩ = some (.slice none 0 0) := (blk_cell BK183.out 1).trans rfl
                                          have hfz30_0 := blk_frozen BK183.out 0
                                          have hfz30_1 := blk_frozen BK183.out 1
                                          try go_wp2_with (first | ((with_reducible refine gate_callee (f := 12) rfl ?_); refine goesL_ (some 63) rfl rfl Try.func12 (by kernel_rfl) rfl #[.agg #[.int .i64 (wrap64 (rd y168 1)), .slice A26 y178.length c26]] rfl (by (try simp only [List.map_toArray, List.map_cons, List.map_nil]); first | done | rfl | (simp only [List.length_drop, List.length_take]; rfl)) ?_; (with_reducible refine (noonmarkref29_Frame.calls kj8 (wrap64 (rd y168 1)) _ _ y178 t184 t187 _ ?side1 ?side2 A17.out).mono ?_); (case side1 => refine (Kd.V_reads' (e := 5) (base := w.heap.size) (ok := fun k_ => (((P0_ k_ ∨ w.heap.size ≤ k_) ∧ some k_ ≠ (u4 : Value).ownBlock) ∧ k_ ≠ gb183)) (n := y178.length) (c := c26) ?_).2.2; exact (by (with_reducible repeat (first | apply Kd.V_alloc | apply Kd.V_drewN | apply Kd.V_drew)); exact (Kd.V_mono (Kd.V_far (p := ⟨gb183, 1, none⟩) (Kd.V_far (p := ⟨gb183, 0, none⟩) (Kd.V_mono HO182.out (fun k_ hk => (⟨hk, hk.2⟩ : _ ∧ k_ ≠ gb183))) (fun _ hk => hk.2) (.int .i64 (wrap64 (rd y168 1)))) (fun _ hk => hk.2) (.slice A26 y178.length c26)) (fun _ h_ => h_.1)))); (case side2 => exact (Kd.V_reads' HO182.out).2.1); rintro e w31 ⟨v185, rfl, ho0, hb⟩; refine ⟨_, rfl, ?_⟩; have n0_ := Aside0.mk (Kd.V_elder' (by (with_reducible repeat (first | apply Kd.V_alloc | apply Kd.V_drewN | apply Kd.V_drew)); exact (Kd.V_mono (Kd.V_far (p := ⟨gb183, 1, none⟩) (Kd.V_far (p := ⟨gb183, 0, none⟩) (Kd.V_mono HO_0.out (fun k_ hk => (⟨hk, hk.2⟩ : _ ∧ k_ ≠ gb183))) (fun _ hk => hk.2) (.int .i64 (wrap64 (rd y168 1)))) (fun _ hk => hk.2) (.slice A26 y178.length c26)) (fun _ h_ => h_.1))) (Kd.R_base ho0) hb); have n1_ := Aside0.mk (Kd.N_elder' (by (with_reducible repeat (first | apply Kd.N_alloc | apply Kd.N_drewN | apply Kd.N_drew)); exact (Kd.N_mono (Kd.N_far (p := ⟨gb183, 1, none⟩) (Kd.N_far (p := ⟨gb183, 0, none⟩) (Kd.N_mono HO_4.out (fun k_ hk => (⟨hk, hk.2⟩ : _ ∧ k_ ≠ gb183))) (fun _ hk => hk.2) (.int .i64 (wrap64 (rd y168 1)))) (fun _ hk => hk.2) (.slice A26 y178.length c26)) (fun _ h_ => h_.1))) (Kd.R_base ho0) hb); have n2_ := Aside0.mk (Kd.V_elder' (by (with_reducible repeat (first | apply Kd.V_alloc | apply Kd.V_drewN | apply Kd.V_drew)); exact (Kd.V_mono (Kd.V_far (p := ⟨gb183, 1, none⟩) (Kd.V_far (p := ⟨gb183, 0, none⟩) (Kd.V_mono HO_6.out (fun k_ hk => (⟨hk, hk.2⟩ : _ ∧ k_ ≠ gb183))) (fun _ hk => hk.2) (.int .i64 (wrap64 (rd y168 1)))) (fun _ hk => hk.2) (.slice A26 y178.length c26)) (fun _ h_ => h_.1))) (Kd.R_base ho0) hb); have n3_ := Aside0.mk (Kd.V_elder' (by (with_reducible repeat (first | apply Kd.V_alloc | apply Kd.V_drewN | apply Kd.V_drew)); exact (Kd.V_mono (Kd.V_far (p := ⟨gb183, 1, none⟩) (Kd.V_far (p := ⟨gb183, 0, none⟩) (Kd.V_mono HO182.out (fun k_ hk => (⟨hk, hk.2⟩ : _ ∧ k_ ≠ gb183))) (fun _ hk => hk.2) (.int .i64 (wrap64 (rd y168 1)))) (fun _ hk => hk.2) (.slice A26 y178.length c26)) (fun _ h_ => h_.1))) (Kd.R_base ho0) hb); have n4_ := Aside0.mk (Kd.R_lower (Kd.R_newM (M := fun k_ => (w.heap.size ≤ k_)) ho0 (below_size (by repeat (first | (with_reducible first | exact HB.out | apply below_alloc | apply pw_below_drewN | apply below_drew1 | refine below_set ?_ GE183.out) | exact HB.out))) (fun k_ h_ => h_)) (below_size (by repeat (first | (with_reducible first | exact HB.out | apply below_alloc | apply pw_below_drewN | apply below_drew1 | refine below_set ?_ GE183.out) | exact HB.out)))); have n5_ := Aside0.mk (blk_below (g := gb183) (o := .cells #[.int .i64 (wrap64 (rd y168 1)), .slice A26 y178.length c26] 24 (0, 0)) (by (with_reducible repeat (first | refine blk_drewN ?_ _ | refine blk_drew ?_ | refine blk_alloc ?_ _)); refine blk_put (cs := #[.int .i64 (wrap64 (rd y168 1)), .slice none 0 0]) ?_ 1 _ rfl; (with_reducible repeat (first | refine blk_drewN ?_ _ | refine blk_drew ?_ | refine blk_alloc ?_ _)); refine blk_put (cs := #[.int .i64 0, .slice none 0 0]) ?_ 0 _ rfl; (with_reducible repeat (first | refine blk_drewN ?_ _ | refine blk_drew ?_ | refine blk_alloc ?_ _)); exact BK183.out) hb); have n6_ := Aside0.mk (below_step (by repeat (first | (with_reducible first | exact HB.out | apply below_alloc | apply pw_below_drewN | apply below_drew1 | refine below_set ?_ GE183.out) | exact HB.out)) hb); clear HO_0; clear HO_4; clear HO_6; clear HO182; clear BK183; clear HB; have HO_0 := n0_; have HO_4 := n1_; have HO_6 := n2_; have HO182 := n3_; have HO186 := n4_; have BK183 := n5_; have HB := n6_; clear n0_ n1_ n2_ n3_ n4_ n5_ n6_; (try clear hb); (try clear hb2); (try clear hk); (try clear hi); (try clear ho0); have q32 : ((ji19) : Int) ≤ ((y168.length : Int) : Int) := of_decide_eq_true (by first | (with_reducible assumption) | assumption); obtain ⟨i032, hi032, _, hsz32, _⟩ := info_parts info5; have hroom32 : y168.length ≤ c10 := (Kd.V_reads' HO_6.out).2.1; have hC32 : Kd.F (Kd.int .u8) _ _ (some ad173) y168.length y168 := (Kd.V_at (base := w.heap.size) HO_6.out).2.2; have hcut32 := cut_to (P := Try.prog) 22 5 .i64 Try.underlying22 hi032 (some ad173) y168.length c10 (ji19) (of_decide_eq_true (by first | (with_reducible assumption) | assumption)) q32 hroom32; have hr32 := Kd.F_take (m := ((ji19) : Int).toNat) hC32 (by omega); have hy32 : y188.length = ((ji19) : Int).toNat := (by rw [Ny188.out, List.length_take]; omega); rw [← Ny188.out] at hr32; rw [← hy32] at hcut32; have HO192 := Aside0.mk (show Kd.V (Kd.int .u8) 5 _ w.heap.size _ (.slice (some ad173) y188.length c10) y188 from Kd.V_mk (by omega) hr32); have HC192 := Aside0.mk (show y188.length ≤ c10 from by omega); clear hr32 hC32 hroom32 hi032 hsz32; have KY32 := Aside0.mk hy32; clear hy32; replace q32 := eq_true q32; obtain ⟨Ao33, co33, eo33⟩ := Kd.R_slice HO186.out; subst eo33) | (go_at_call 15; (with_reducible refine (noonmarkref01_Same.calls kj8 _ _ t184 _ _ y188 true _ ?side1 ?side2 ?side3 ?side4 A22.out).mono ?_); (case side1 => repeat (first | exact (Kd.R_reads' HO186.out).2.2 | (with_reducible refine Kd.C_alloc ?_ _) | (with_reducible refine Kd.C_drewN ?_ _) | (with_reducible refine Kd.C_drew ?_))); (case side2 => exact (Kd.R_reads' HO186.out).2.1); (case side3 => repeat (first | exact (Kd.V_reads' HO192.out).2.2 | (with_reducible refine Kd.C_alloc ?_ _) | (with_reducible refine Kd.C_drewN ?_ _) | (with_reducible refine Kd.C_drew ?_))); (case side4 => exact (Kd.V_reads' HO192.out).2.1); rintro e w' ⟨rfl, ⟨nd, rfl⟩⟩; have hcz34_0 : w31.cell? ⟨gb183, 0, none⟩ = some (.int .i64 (wrap64 (rd y168 1))) := (blk_cell BK183.out 0).trans rfl; have hcz34_1 : w31.cell? ⟨gb183, 1, none⟩ = some (.slice A26 y178.length c26) := (blk_cell BK183.out 1).trans rfl; have hfz34_0 := blk_frozen BK183.out 0; have hfz34_1 := blk_frozen BK183.out 1) | ((with_reducible refine gate_builtin (b := .append) (xs := #[.tmp 79, .tmp 81]) rfl ?_); (try (refine gate_guard (by rfl) ?_; dsimp only)); at_builtin; refine Kd.N_append k24 (w0 := w) w.heap.size rfl (.tmp 79) (.tmp 81) 35 24 (.agg #[(.int .i64 0), (.slice none 0 0)]) 32 rfl Try.underlying35 info24 rfl (by decide) (by omega) u4 x4_1 (⟨wrap64 (rd y168 1), y178⟩ : S24) [.int .i64 (wrap64 (rd y168 1)), .slice A26 y178.length c26] (fun k_ => (P0_ k_ ∨ w.heap.size ≤ k_) ∧ some k_ ≠ (.slice Ao33 t184.length co33 : Value).ownBlock ∧ k_ ≠ gb183) (fun k_ => ((fun k_ => (P0_ k_ ∨ w.heap.size ≤ k_) ∧ some k_ ≠ (.slice Ao33 t184.length co33 : Value).ownBlock ∧ k_ ≠ gb183)) k_ ∧ some k_ ≠ (u4 : Value).ownBlock) rfl rfl ?aP (fun _ hk => hk) ?aF ?aO ?aB ?aS ?aL ?_; (case aP => exact (k24_mkF _ _ (⟨wrap64 (rd y168 1), y178⟩ : S24) (Kd.V_reads' (Kd.V_mono (ok' := (fun k_ => ((fun k_ => (P0_ k_ ∨ w.heap.size ≤ k_) ∧ some k_ ≠ (.slice Ao33 t184.length co33 : Value).ownBlock ∧ k_ ≠ gb183)) k_ ∧ some k_ ≠ (u4 : Value).ownBlock)) (Kd.V_drewN HO182.out nd) (fun k_ hk => ⟨⟨hk.1.1.1, ⟨hk.2, hk.1.2⟩⟩, hk.1.1.2⟩))).2.1 (Kd.V_F (Kd.V_mono (ok' := (fun k_ => ((fun k_ => (P0_ k_ ∨ w.heap.size ≤ k_) ∧ some k_ ≠ (.slice Ao33 t184.length co33 : Value).ownBlock ∧ k_ ≠ gb183)) k_ ∧ some k_ ≠ (u4 : Value).ownBlock)) (Kd.V_drewN HO182.out nd) (fun k_ hk => ⟨⟨hk.1.1.1, ⟨hk.2, hk.1.2⟩⟩, hk.1.1.2⟩))))); (case aB => exact (by repeat (first | (with_reducible first | exact HB.out | apply below_alloc | apply pw_below_drewN | apply below_drew1 | refine below_set ?_ GE183.out) | exact HB.out))); (case aF => exact (fun k_ hk => ⟨(.inr (Nat.le_trans (below_size (by repeat (first | (with_reducible first | exact HB.out | apply below_alloc | apply pw_below_drewN | apply below_drew1 | refine below_set ?_ GE183.out) | exact HB.out))) hk)), Kd.fresh' (Kd.R_lt (by (with_reducible repeat (first | apply Kd.R_alloc | apply Kd.R_drewN | apply Kd.R_drew)); exact HO186.out)) k_ hk, Kd.freshB (g := gb183) (o := .cells #[.int .i64 (wrap64 (rd y168 1)), .slice A26 y178.length c26] 24 (0, 0)) (by (with_reducible repeat (first | refine blk_drewN ?_ _ | refine blk_drew ?_ | refine blk_alloc ?_ _)); exact BK183.out) k_ hk⟩)); (case aO => exact (by (with_reducible repeat (first | apply Kd.N_alloc | apply Kd.N_drewN | apply Kd.N_drew)); exact Kd.N_mono HO_4.out (fun _ hk => ⟨hk.1.1, ⟨hk.2, hk.1.2⟩⟩))); (case aS => exact (below_size (by repeat (first | (with_reducible first | exact HB.out | apply below_alloc | apply pw_below_drewN | apply below_drew1 | refine below_set ?_ GE183.out) | exact HB.out)))); (case aL => have := LMc24.out; omega); intro v195 w35 ho hb hg hat; rw [← Ny194.out] at ho; have n0_ := Aside0.mk (Kd.V_afterv (ok := (fun k_ => (P0_ k_ ∨ w.heap.size ≤ k_) ∧ some k_ ≠ (.slice Ao33 t184.length co33 : Value).ownBlock ∧ k_ ≠ gb183)) (by (with_reducible repeat (first | apply Kd.V_alloc | apply Kd.V_drewN | apply Kd.V_drew)); exact Kd.V_mono HO_0.out (fun _ hk => ⟨⟨hk.1.1.1, ⟨hk.2, hk.1.2⟩⟩, hk.1.1.2⟩)) hg hat); have n1_ := Aside0.mk (Kd.V_afterv (ok := (fun k_ => (P0_ k_ ∨ w.heap.size ≤ k_) ∧ some k_ ≠ (.slice Ao33 t184.length co33 : Value).ownBlock ∧ k_ ≠ gb183)) (by (with_reducible repeat (first | apply Kd.V_alloc | apply Kd.V_drewN | apply Kd.V_drew)); exact Kd.V_mono HO_6.out (fun _ hk => ⟨⟨hk.1.1.1, ⟨hk.2, hk.1.2⟩⟩, hk.1.1.2⟩)) hg hat); have n2_ := Aside0.mk (Kd.V_afterv (ok := (fun k_ => (P0_ k_ ∨ w.heap.size ≤ k_) ∧ some k_ ≠ (.slice Ao33 t184.length co33 : Value).ownBlock ∧ k_ ≠ gb183)) (by (with_reducible repeat (first | apply Kd.V_alloc | apply Kd.V_drewN | apply Kd.V_drew)); exact Kd.V_mono HO182.out (fun _ hk => ⟨⟨hk.1.1.1, ⟨hk.2, hk.1.2⟩⟩, hk.1.1.2⟩)) hg hat); have n3_ := Aside0.mk (blk_grown (g := gb183) (o := .cells #[.int .i64 (wrap64 (rd y168 1)), .slice A26 y178.length c26] 24 (0, 0)) (by (with_reducible repeat (first | refine blk_drewN ?_ _ | refine blk_drew ?_ | refine blk_alloc ?_ _)); exact BK183.out) hg (Kd.N_away HO_4.out (fun _ hk => hk.1.2))); have n4_ := Aside0.mk (Kd.R_over' (by (with_reducible repeat (first | apply Kd.R_alloc | apply Kd.R_drewN | apply Kd.R_drew)); exact HO186.out) (Kd.N_typed (by (with_reducible repeat (first | apply Kd.N_alloc | apply Kd.N_drewN | apply Kd.N_drew)); exact HO_4.out)) (by decide) hg); have n5_ := Aside0.mk (Kd.V_afterv (ok := (fun k_ => (P0_ k_ ∨ w.heap.size ≤ k_) ∧ some k_ ≠ (.slice Ao33 t184.length co33 : Value).ownBlock ∧ k_ ≠ gb183)) (by (with_reducible repeat (first | apply Kd.V_alloc | apply Kd.V_drewN | apply Kd.V_drew)); exact Kd.V_mono HO192.out (fun _ hk => ⟨⟨hk.1.1.1, ⟨hk.2, hk.1.2⟩⟩, hk.1.1.2⟩)) hg hat); have n6_ := Aside0.mk (hb); have n7_ := Aside0.mk (ho); clear HO_0; clear HO_6; clear HO182; clear BK183; clear HO186; clear HO192; clear HB; clear HO_4; have HO_0 := n0_; have HO_6 := n1_; have HO182 := n2_; have BK183 := n3_; have HO186 := n4_; have HO192 := n5_; have HB := n6_; have HO196 := n7_; clear n0_ n1_ n2_ n3_ n4_ n5_ n6_ n7_; clear ho hb hg hat))
                                          go_roundg kj8
                                          case measure => have := HK1.out; have := HJ8.out; omega
                                          case rel => exact ⟨(y194), (wrap64 ((wrap64 (x5_1 + (wrap64 ((wrap64 ((wrap64 ((wrap64 (rd y168 2)) + (wrap64 ((wrap64 (rd y168 3)) * 256)))) + (wrap64 ((wrap64 (rd y168 4)) * 65536)))) + (wrap64 ((wrap64 (rd y168 5)) * 16777216)))))) + 10)), (by first | rfl | (simp; done) | (simp [*]; done)), H', ⟨by have := HK1.out; have := HJ8.out; omega⟩, ⟨by (with_reducible repeat (first | apply Kd.V_alloc | apply Kd.V_drewN | apply Kd.V_drew)); exact Kd.V_mono HO_0.out (fun _ hk => ⟨hk.1.1, hk.2⟩)⟩, ⟨by (with_reducible repeat (first | apply Kd.N_alloc | apply Kd.N_drewN | apply Kd.N_drew)); exact Kd.N_mono HO196.out (fun _ hk => hk.1)⟩, ⟨by repeat (first | (with_reducible first | exact HB.out | apply below_alloc | apply pw_below_drewN | apply below_drew1 | refine below_set ?_ GE183.out) | exact HB.out)⟩⟩
                                        · rw [if_neg c24] at H
                                          exact absurd H (by simp)
                                      · replace c23 := Bool.eq_false_iff.mpr c23
                                        subst c23
                                        have H1 : (some (x4_1, x5_1)) = some (r1, r2) := by rw [if_neg (show ¬ (false = true) by decide)] at H; exact H
                                        clear H
                                        have H := H1
                                        clear H1
                                        simp only [Option.some.injEq, Prod.mk.injEq] at H
                                        obtain ⟨rfl, rfl⟩ := H
                                        try go_wp2
                                        have n0_ := Aside0.mk (Kd.V_drew HO_0.out)
                                        have n1_ := Aside0.mk (Kd.N_drew HO_4.out)
                                        have n2_ := Aside0.mk (Kd.V_drew HO_6.out)
                                        have n3_ := Aside0.mk (below_drew1 HB.out)
                                        clear HO_0
                                        clear HO_4
                                        clear HO_6
                                        clear HB
                                        have HO_0 := n0_
                                        have HO_4 := n1_
                                        have HO_6 := n2_
                                        have HB := n3_
                                        clear n0_ n1_ n2_ n3_
                                        have p177 : 0 ≤ (1 : Int) := (by omega)
                                        have q177 : 1 < (y168.length : Int) := of_decide_eq_true (by first | (with_reducible assumption) | assumption)
                                        obtain ⟨ad177, e177, hx177_0⟩ := Kd.at_int (Kd.V_reads' HO_6.out).2.2 1 p177 q177
                                        obtain rfl : ad173 = ad177 := (by injection e177)
                                        (try simp only [show (1 : Int).toNat = 1 from rfl, Nat.reduceMul, Nat.reduceEqDiff, Go.Addr.add, ↓reduceIte] at hx177_0)
                                        have qi177 : (1 < y168.length) = True := eq_true (by omega)
                                        (try rw [show ((1 : Int)).toNat = 1 from rfl] at hx177_0)
                                        replace p177 := eq_true p177
                                        replace q177 := eq_true q177
                                        have q37 : ((wrap64 (6 + (wrap64 ((wrap64 ((wrap64 ((wrap64 (rd y168 2)) + (wrap64 ((wrap64 (rd y168 3)) * 256)))) + (wrap64 ((wrap64 (rd y168 4)) * 65536)))) + (wrap64 ((wrap64 (rd y168 5)) * 16777216)))))) : Int) ≤ ((y168.length : Int) : Int) := of_decide_eq_true (by first | (with_reducible assumption) | assumption)
                                        obtain ⟨i037, hi037, _, hsz37, _⟩ := info_parts info5
                                        have hroom37 : y168.length ≤ c10 := (Kd.V_reads' HO_6.out).2.1
                                        have hC37 : Kd.F (Kd.int .u8) _ _ (some ad173) y168.length y168 := (Kd.V_at (base := w.heap.size) HO_6.out).2.2
                                        have ql37 : (6 : Int) ≤ ((wrap64 (6 + (wrap64 ((wrap64 ((wrap64 ((wrap64 (rd y168 2)) + (wrap64 ((wrap64 (rd y168 3)) * 256)))) + (wrap64 ((wrap64 (rd y168 4)) * 65536)))) + (wrap64 ((wrap64 (rd y168 5)) * 16777216)))))) : Int) := of_decide_eq_true (by first | (with_reducible assumption) | assumption)
                                        have hcut37 := cut_mid (P := Try.prog) 22 5 .i64 .i64 Try.underlying22 hi037 1 hsz37 (some ad173) y168.length c10 6 (wrap64 (6 + (wrap64 ((wrap64 ((wrap64 ((wrap64 (rd y168 2)) + (wrap64 ((wrap64 (rd y168 3)) * 256)))) + (wrap64 ((wrap64 (rd y168 4)) * 65536)))) + (wrap64 ((wrap64 (rd y168 5)) * 16777216)))))) (by omega) ql37 q37 hroom37
                                        have hr37 := Kd.F_mid (lo := (6 : Int).toNat) (hi := ((wrap64 (6 + (wrap64 ((wrap64 ((wrap64 ((wrap64 (rd y168 2)) + (wrap64 ((wrap64 (rd y168 3)) * 256)))) + (wrap64 ((wrap64 (rd y168 4)) * 65536)))) + (wrap64 ((wrap64 (rd y168 5)) * 16777216)))))) : Int).toNat) (c := c10) hC37 (by omega) (by omega) hroom37
                                        obtain ⟨A37, hA37⟩ : ∃ A1, A1 = (if c10 = (6 : Int).toNat then (some ad173) else ((some ad173) : Option Addr).map (·.add ((6 : Int).toNat * 1))) := ⟨_, rfl⟩
                                        obtain ⟨c37, hc37⟩ : ∃ c1, c1 = c10 - (6 : Int).toNat := ⟨_, rfl⟩
                                        have hy37 : y178.length = ((wrap64 (6 + (wrap64 ((wrap64 ((wrap64 ((wrap64 (rd y168 2)) + (wrap64 ((wrap64 (rd y168 3)) * 256)))) + (wrap64 ((wrap64 (rd y168 4)) * 65536)))) + (wrap64 ((wrap64 (rd y168 5)) * 16777216)))))) : Int).toNat - (6 : Int).toNat := (by rw [Ny178.out, List.length_drop, List.length_take] <;> omega)
                                        rw [show ((y168).take ((wrap64 (6 + (wrap64 ((wrap64 ((wrap64 ((wrap64 (rd y168 2)) + (wrap64 ((wrap64 (rd y168 3)) * 256)))) + (wrap64 ((wrap64 (rd y168 4)) * 65536)))) + (wrap64 ((wrap64 (rd y168 5)) * 16777216)))))) : Int).toNat).drop (6 : Int).toNat = y178 from Ny178.out.symm] at hr37
                                        replace hr37 : Kd.F (Kd.int .u8) _ _ A37 y178.length y178 := (by rw [hA37]; exact hr37)
                                        rw [← hy37, ← hA37, ← hc37] at hcut37
                                        have HO182 := Aside0.mk (show Kd.V (Kd.int .u8) 5 _ w.heap.size _ (.slice A37 y178.length c37) y178 from Kd.V_mk (by rw [hy37, hc37]; exact Nat.sub_le_sub_right (Nat.le_trans (by omega) hroom37) _) hr37)
                                        have HC182 := Aside0.mk (show y178.length ≤ c37 from by rw [hy37, hc37]; exact Nat.sub_le_sub_right (Nat.le_trans (by omega) hroom37) _)
                                        clear hr37 hC37 hroom37 hi037 hsz37 hc37
                                        have KY37 := Aside0.mk hy37
                                        have KA37 := Aside0.mk hA37
                                        clear hy37 hA37
                                        replace q37 := eq_true q37
                                        refine start_ (n := 11) (S := fun w' => w'.cell? ⟨ad173.block, ad173.off + 1, none⟩ = some (.int .u8 (rd y168 1))) (ds := []) #[false, false, false, false, false, false, false, false, false, false, false] (by kernel_rfl) rfl rfl (hx177_0) (fun hHeld => ?_); refine with_tabW noonmarkref29_Read.tab8 noonmarkref29_Read.bits8 (fun HT_ HW_ => ?_)
                                        generalize wc.drew = w36 at HO_0 HO_4 HO_6 HB HO182 hx177_0 hHeld ⊢
                                        refine pure_ (i := 0) (N := some 52) (v := ?_) (a' := ?_) #[true, false, false, false, false, false, false, false, false, false, false] rfl rfl (any_of HT_.out (by kernel_rfl)) (fun _ _ _ h => h) (Or.inl ⟨by rfl, ?_⟩) ?_ ?_
                                        rotate_left
                                        · intro w'
                                          go_simp
                                          with_reducible rfl
                                        rotate_left
                                        · simp only [Act.put, List.setIfInBounds_toArray, List.set_cons_zero, List.set_cons_succ, i64_w, i32_w]
                                          rfl
                                        refine pure_ (i := 1) (N := some 53) (v := ?_) (a' := ?_) #[true, true, false, false, false, false, false, false, false, false, false] rfl rfl (any_of HT_.out (by kernel_rfl)) (fun _ _ _ h => h) (Or.inl ⟨by rfl, ?_⟩) ?_ ?_
                                        rotate_left
                                        · intro w'
                                          go_simp
                                          with_reducible rfl
                                        rotate_left
                                        · simp only [Act.put, List.setIfInBounds_toArray, List.set_cons_zero, List.set_cons_succ, i64_w, i32_w]
                                          rfl
                                        refine pure_ (i := 4) (N := some 56) (v := ?_) (a' := ?_) #[true, true, false, false, true, false, false, false, false, false, false] rfl rfl (any_of HT_.out (by kernel_rfl)) (fun _ _ _ h => h) (Or.inl ⟨by rfl, ?_⟩) ?_ ?_
                                        rotate_left
                                        · intro w'
                                          go_simp
                                          with_reducible rfl
                                        rotate_left
                                        · simp only [Act.put, List.setIfInBounds_toArray, List.set_cons_zero, List.set_cons_succ, i64_w, i32_w]
                                          rfl
                                        refine pure_ (i := 5) (N := some 57) (v := ?_) (a' := ?_) #[true, true, false, false, true, true, false, false, false, false, false] rfl rfl (any_of HT_.out (by kernel_rfl)) (fun _ _ _ h => h) (Or.inl ⟨by rfl, ?_⟩) ?_ ?_
                                        rotate_left
                                        · intro w'
                                          go_simp
                                          with_reducible rfl
                                        rotate_left
                                        · simp only [Act.put, List.setIfInBounds_toArray, List.set_cons_zero, List.set_cons_succ, i64_w, i32_w]
                                          rfl
                                        refine pure_ (i := 6) (N := some 58) (v := ?_) (a' := ?_) #[true, true, false, false, true, true, true, false, false, false, false] rfl rfl (any_of HT_.out (by kernel_rfl)) (fun _ _ _ h => h) (Or.inl ⟨by rfl, ?_⟩) ?_ ?_
                                        rotate_left
                                        · intro w'
                                          go_simp
                                          with_reducible rfl
                                        rotate_left
                                        · simp only [Act.put, List.setIfInBounds_toArray, List.set_cons_zero, List.set_cons_succ, i64_w, i32_w]
                                          rfl
                                        refine pure_ (i := 7) (N := some 59) (v := ?_) (a' := ?_) #[true, true, false, false, true, true, true, true, false, false, false] rfl rfl (any_of HT_.out (by kernel_rfl)) (fun _ _ _ h => h) (Or.inl ⟨by rfl, ?_⟩) ?_ ?_
                                        rotate_left
                                        · intro w'
                                          go_simp
                                          with_reducible rfl
                                        rotate_left
                                        · simp only [Act.put, List.setIfInBounds_toArray, List.set_cons_zero, List.set_cons_succ, i64_w, i32_w]
                                          rfl
                                        refine take_ (i := 2) (N := some 54) (v := ?_) (a' := ?_) #[true, true, true, false, true, true, true, true, false, false, false] rfl rfl (take_ofW HT_.out HW_.out (by kernel_rfl)) (fun _ _ _ h => h) (Or.inl ⟨by rfl, ?_⟩) hHeld ?_ ?_
                                        rotate_left
                                        · intro w' s0
                                          go_simp
                                          with_reducible rfl
                                        rotate_left
                                        · simp only [Act.put, List.setIfInBounds_toArray, List.set_cons_zero, List.set_cons_succ, i64_w, i32_w]
                                          rfl
                                        refine pure_ (i := 3) (N := some 55) (v := ?_) (a' := ?_) #[true, true, true, true, true, true, true, true, false, false, false] rfl rfl (any_of HT_.out (by kernel_rfl)) (fun _ _ _ h => h) (Or.inl ⟨by rfl, ?_⟩) ?_ ?_
                                        rotate_left
                                        · intro w'
                                          go_simp
                                          with_reducible rfl
                                        rotate_left
                                        · simp only [Act.put, List.setIfInBounds_toArray, List.set_cons_zero, List.set_cons_succ, i64_w, i32_w]
                                          rfl
                                        refine pure_ (i := 8) (N := some 60) (v := ?_) (a' := ?_) #[true, true, true, true, true, true, true, true, true, false, false] rfl rfl (any_of HT_.out (by kernel_rfl)) (fun _ _ _ h => h) (Or.inl ⟨by rfl, ?_⟩) ?_ ?_
                                        rotate_left
                                        · intro w'
                                          go_simp
                                          with_reducible rfl
                                        rotate_left
                                        · simp only [Act.put, List.setIfInBounds_toArray, List.set_cons_zero, List.set_cons_succ, i64_w, i32_w]
                                          rfl
                                        refine one_ (i := 9) (N := some 8) #[true, true, true, true, true, true, true, true, true, true, false] rfl rfl (one_of HT_.out (by kernel_rfl)) (by decide) (fun K hK => ?_)
                                        refine box_step ?hg (N := 8) ?hd (cs := #[.int .i64 0, .slice none 0 0]) (t := 24) ?hr ?_; (case hd => rfl); (case hg => rfl); (case hr => first | (go_simp; done) | (go_simp; rfl))
                                        intro gb183 hg w38 hbox hb
                                        have hlt_ := World.block_lt_of_cell? _ _ hHeld; (try rw [add_block] at hlt_); (try dsimp only at hlt_); rw [← hg] at hlt_; have HLT := Aside0.mk hlt_; clear hlt_
                                        have HS0_ := (hb.cell (World.block_lt_of_cell? _ _ (hHeld))).trans (hHeld)
                                        have n0_ := Aside0.mk (Kd.V_below (Kd.V_elderB (by (with_reducible repeat (first | apply Kd.V_alloc | apply Kd.V_drewN | apply Kd.V_drew)); exact HO_0.out) gb183 (Nat.le_of_eq hg.symm)) hb)
                                        have n1_ := Aside0.mk (Kd.N_below (Kd.N_elderB (by (with_reducible repeat (first | apply Kd.N_alloc | apply Kd.N_drewN | apply Kd.N_drew)); exact HO_4.out) gb183 (Nat.le_of_eq hg.symm)) hb)
                                        have n2_ := Aside0.mk (Kd.V_below (Kd.V_elderB (by (with_reducible repeat (first | apply Kd.V_alloc | apply Kd.V_drewN | apply Kd.V_drew)); exact HO_6.out) gb183 (Nat.le_of_eq hg.symm)) hb)
                                        have n3_ := Aside0.mk (Kd.V_below (Kd.V_elderB (by (with_reducible repeat (first | apply Kd.V_alloc | apply Kd.V_drewN | apply Kd.V_drew)); exact HO182.out) gb183 (Nat.le_of_eq hg.symm)) hb)
                                        have n4_ := Aside0.mk (below_step (by repeat (first | (with_reducible first | exact HB.out | apply below_alloc | apply pw_below_drewN | apply below_drew1) | exact HB.out)) hb)
                                        have n5_ := Aside0.mk (hbox)
                                        have n6_ := Aside0.mk ((by rw [hg]; exact (below_size (by repeat (first | (with_reducible first | exact HB.out | apply below_alloc | apply pw_below_drewN | apply below_drew1) | exact HB.out))) : w.heap.size ≤ gb183))
                                        have n7_ := Aside0.mk ((by rw [hg]; exact (below_size (by repeat (first | (with_reducible first | exact HB.out | apply below_alloc | apply pw_below_drewN | apply below_drew1) | exact HB.out))) : w.heap.size ≤ gb183))
                                        clear HO_0
                                        clear HO_4
                                        clear HO_6
                                        clear HO182
                                        clear HB
                                        have HO_0 := n0_
                                        have HO_4 := n1_
                                        have HO_6 := n2_
                                        have HO182 := n3_
                                        have HB := n4_
                                        have BK183 := n5_
                                        have GW183 := n6_
                                        have GE183 := n7_
                                        clear n0_ n1_ n2_ n3_ n4_ n5_ n6_ n7_
                                        clear hb hbox hg
                                        refine hK.out _ _ (HS0_) (fun hHeld => ?_)
                                        clear hK K
                                        refine norm_ (a' := ?_) ?_ ?_
                                        rotate_left
                                        · show Act.put _ (some 8) _ = _
                                          simp only [Act.put, List.setIfInBounds_toArray, List.set_cons_zero, List.set_cons_succ, i64_w, i32_w]
                                          rfl
                                        refine one_ (i := 10) (N := none) #[true, true, true, true, true, true, true, true, true, true, true] rfl rfl (one_of HT_.out (by kernel_rfl)) (by decide) (fun K hK => ?_)
                                        have hs39 : w38.cell? ⟨gb183, 0, none⟩ = some (.int .i64 0) := (blk_cell BK183.out 0).trans rfl
                                        have hfs39 := blk_frozen BK183.out 0
                                        have hs40 : w38.cell? ⟨gb183, 1, none⟩ = some (.slice none 0 0) := (blk_cell BK183.out 1).trans rfl
                                        have hfs40 := blk_frozen BK183.out 1
                                        refine skip_ (w1 := ?_) (by rfl) rfl ?_ ?_
                                        rotate_left
                                        · go_simp
                                          rfl
                                        refine hK.out _ _ (((cell_far (p := ⟨gb183, _, none⟩) (by first | exact Nat.ne_of_lt HLT.out | (rw [add_block]; exact Nat.ne_of_lt HLT.out) | (show (Addr.add _ _).block ≠ _; rw [add_block]; exact Nat.ne_of_lt HLT.out) | (dsimp only; exact Nat.ne_of_lt HLT.out)) _).trans (((cell_far (p := ⟨gb183, _, none⟩) (by first | exact Nat.ne_of_lt HLT.out | (rw [add_block]; exact Nat.ne_of_lt HLT.out) | (show (Addr.add _ _).block ≠ _; rw [add_block]; exact Nat.ne_of_lt HLT.out) | (dsimp only; exact Nat.ne_of_lt HLT.out)) _).trans (hHeld))))) (fun hHeld => ?_)
                                        clear hK K
                                        refine done_ (done_of HT_.out (by kernel_rfl)) ?_
                                        have hcz41_0 : w38.cell? ⟨gb183, 0, none⟩ = some (.int .i64 0) := (blk_cell BK183.out 0).trans rfl
                                        have hcz41_1 : w38.cell? ⟨gb183, 1, none⟩ = some (.slice none 0 0) := (blk_cell BK183.out 1).trans rfl
                                        have hfz41_0 := blk_frozen BK183.out 0
                                        have hfz41_1 := blk_frozen BK183.out 1
                                        try go_wp2_with (first | ((with_reducible refine gate_callee (f := 12) rfl ?_); refine goesL_ (some 63) rfl rfl Try.func12 (by kernel_rfl) rfl #[.agg #[.int .i64 (wrap64 (rd y168 1)), .slice A37 y178.length c37]] rfl (by (try simp only [List.map_toArray, List.map_cons, List.map_nil]); first | done | rfl | (simp only [List.length_drop, List.length_take]; rfl)) ?_; (with_reducible refine (noonmarkref29_Frame.calls kj8 (wrap64 (rd y168 1)) _ _ y178 t184 t187 _ ?side1 ?side2 A17.out).mono ?_); (case side1 => refine (Kd.V_reads' (e := 5) (base := w.heap.size) (ok := fun k_ => (((P0_ k_ ∨ w.heap.size ≤ k_) ∧ some k_ ≠ (u4 : Value).ownBlock) ∧ k_ ≠ gb183)) (n := y178.length) (c := c37) ?_).2.2; exact (by (with_reducible repeat (first | apply Kd.V_alloc | apply Kd.V_drewN | apply Kd.V_drew)); exact (Kd.V_mono (Kd.V_far (p := ⟨gb183, 1, none⟩) (Kd.V_far (p := ⟨gb183, 0, none⟩) (Kd.V_mono HO182.out (fun k_ hk => (⟨hk, hk.2⟩ : _ ∧ k_ ≠ gb183))) (fun _ hk => hk.2) (.int .i64 (wrap64 (rd y168 1)))) (fun _ hk => hk.2) (.slice A37 y178.length c37)) (fun _ h_ => h_.1)))); (case side2 => exact (Kd.V_reads' HO182.out).2.1); rintro e w42 ⟨v185, rfl, ho0, hb⟩; refine ⟨_, rfl, ?_⟩; have n0_ := Aside0.mk (Kd.V_elder' (by (with_reducible repeat (first | apply Kd.V_alloc | apply Kd.V_drewN | apply Kd.V_drew)); exact (Kd.V_mono (Kd.V_far (p := ⟨gb183, 1, none⟩) (Kd.V_far (p := ⟨gb183, 0, none⟩) (Kd.V_mono HO_0.out (fun k_ hk => (⟨hk, hk.2⟩ : _ ∧ k_ ≠ gb183))) (fun _ hk => hk.2) (.int .i64 (wrap64 (rd y168 1)))) (fun _ hk => hk.2) (.slice A37 y178.length c37)) (fun _ h_ => h_.1))) (Kd.R_base ho0) hb); have n1_ := Aside0.mk (Kd.N_elder' (by (with_reducible repeat (first | apply Kd.N_alloc | apply Kd.N_drewN | apply Kd.N_drew)); exact (Kd.N_mono (Kd.N_far (p := ⟨gb183, 1, none⟩) (Kd.N_far (p := ⟨gb183, 0, none⟩) (Kd.N_mono HO_4.out (fun k_ hk => (⟨hk, hk.2⟩ : _ ∧ k_ ≠ gb183))) (fun _ hk => hk.2) (.int .i64 (wrap64 (rd y168 1)))) (fun _ hk => hk.2) (.slice A37 y178.length c37)) (fun _ h_ => h_.1))) (Kd.R_base ho0) hb); have n2_ := Aside0.mk (Kd.V_elder' (by (with_reducible repeat (first | apply Kd.V_alloc | apply Kd.V_drewN | apply Kd.V_drew)); exact (Kd.V_mono (Kd.V_far (p := ⟨gb183, 1, none⟩) (Kd.V_far (p := ⟨gb183, 0, none⟩) (Kd.V_mono HO_6.out (fun k_ hk => (⟨hk, hk.2⟩ : _ ∧ k_ ≠ gb183))) (fun _ hk => hk.2) (.int .i64 (wrap64 (rd y168 1)))) (fun _ hk => hk.2) (.slice A37 y178.length c37)) (fun _ h_ => h_.1))) (Kd.R_base ho0) hb); have n3_ := Aside0.mk (Kd.V_elder' (by (with_reducible repeat (first | apply Kd.V_alloc | apply Kd.V_drewN | apply Kd.V_drew)); exact (Kd.V_mono (Kd.V_far (p := ⟨gb183, 1, none⟩) (Kd.V_far (p := ⟨gb183, 0, none⟩) (Kd.V_mono HO182.out (fun k_ hk => (⟨hk, hk.2⟩ : _ ∧ k_ ≠ gb183))) (fun _ hk => hk.2) (.int .i64 (wrap64 (rd y168 1)))) (fun _ hk => hk.2) (.slice A37 y178.length c37)) (fun _ h_ => h_.1))) (Kd.R_base ho0) hb); have n4_ := Aside0.mk (Kd.R_lower (Kd.R_newM (M := fun k_ => (w.heap.size ≤ k_)) ho0 (below_size (by repeat (first | (with_reducible first | exact HB.out | apply below_alloc | apply pw_below_drewN | apply below_drew1 | refine below_set ?_ GE183.out) | exact HB.out))) (fun k_ h_ => h_)) (below_size (by repeat (first | (with_reducible first | exact HB.out | apply below_alloc | apply pw_below_drewN | apply below_drew1 | refine below_set ?_ GE183.out) | exact HB.out)))); have n5_ := Aside0.mk (blk_below (g := gb183) (o := .cells #[.int .i64 (wrap64 (rd y168 1)), .slice A37 y178.length c37] 24 (0, 0)) (by (with_reducible repeat (first | refine blk_drewN ?_ _ | refine blk_drew ?_ | refine blk_alloc ?_ _)); refine blk_put (cs := #[.int .i64 (wrap64 (rd y168 1)), .slice none 0 0]) ?_ 1 _ rfl; (with_reducible repeat (first | refine blk_drewN ?_ _ | refine blk_drew ?_ | refine blk_alloc ?_ _)); refine blk_put (cs := #[.int .i64 0, .slice none 0 0]) ?_ 0 _ rfl; (with_reducible repeat (first | refine blk_drewN ?_ _ | refine blk_drew ?_ | refine blk_alloc ?_ _)); exact BK183.out) hb); have n6_ := Aside0.mk (below_step (by repeat (first | (with_reducible first | exact HB.out | apply below_alloc | apply pw_below_drewN | apply below_drew1 | refine below_set ?_ GE183.out) | exact HB.out)) hb); clear HO_0; clear HO_4; clear HO_6; clear HO182; clear BK183; clear HB; have HO_0 := n0_; have HO_4 := n1_; have HO_6 := n2_; have HO182 := n3_; have HO186 := n4_; have BK183 := n5_; have HB := n6_; clear n0_ n1_ n2_ n3_ n4_ n5_ n6_; (try clear hb); (try clear hb2); (try clear hk); (try clear hi); (try clear ho0); have q43 : ((ji19) : Int) ≤ ((y168.length : Int) : Int) := of_decide_eq_true (by first | (with_reducible assumption) | assumption); obtain ⟨i043, hi043, _, hsz43, _⟩ := info_parts info5; have hroom43 : y168.length ≤ c10 := (Kd.V_reads' HO_6.out).2.1; have hC43 : Kd.F (Kd.int .u8) _ _ (some ad173) y168.length y168 := (Kd.V_at (base := w.heap.size) HO_6.out).2.2; have hcut43 := cut_to (P := Try.prog) 22 5 .i64 Try.underlying22 hi043 (some ad173) y168.length c10 (ji19) (of_decide_eq_true (by first | (with_reducible assumption) | assumption)) q43 hroom43; have hr43 := Kd.F_take (m := ((ji19) : Int).toNat) hC43 (by omega); have hy43 : y188.length = ((ji19) : Int).toNat := (by rw [Ny188.out, List.length_take]; omega); rw [← Ny188.out] at hr43; rw [← hy43] at hcut43; have HO192 := Aside0.mk (show Kd.V (Kd.int .u8) 5 _ w.heap.size _ (.slice (some ad173) y188.length c10) y188 from Kd.V_mk (by omega) hr43); have HC192 := Aside0.mk (show y188.length ≤ c10 from by omega); clear hr43 hC43 hroom43 hi043 hsz43; have KY43 := Aside0.mk hy43; clear hy43; replace q43 := eq_true q43; obtain ⟨Ao44, co44, eo44⟩ := Kd.R_slice HO186.out; subst eo44) | (go_at_call 15; (with_reducible refine (noonmarkref01_Same.calls kj8 _ _ t184 _ _ y188 false _ ?side1 ?side2 ?side3 ?side4 A22.out).mono ?_); (case side1 => repeat (first | exact (Kd.R_reads' HO186.out).2.2 | (with_reducible refine Kd.C_alloc ?_ _) | (with_reducible refine Kd.C_drewN ?_ _) | (with_reducible refine Kd.C_drew ?_))); (case side2 => exact (Kd.R_reads' HO186.out).2.1); (case side3 => repeat (first | exact (Kd.V_reads' HO192.out).2.2 | (with_reducible refine Kd.C_alloc ?_ _) | (with_reducible refine Kd.C_drewN ?_ _) | (with_reducible refine Kd.C_drew ?_))); (case side4 => exact (Kd.V_reads' HO192.out).2.1); rintro e w' ⟨rfl, ⟨nd, rfl⟩⟩))
                                        go_ret2
                                        exact ⟨_, by first | rfl | (simp [errW_none, errW_some] <;> rfl) | (simp only [← hji19]; first | rfl | (simp [errW_none, errW_some] <;> rfl)) | (simp [*, errW_none, errW_some] <;> rfl), by (with_reducible repeat (first | apply Kd.N_alloc | apply Kd.N_drewN | apply Kd.N_drew)); exact Kd.N_mono HO_4.out (fun _ hk => hk.1.1), by repeat (first | (with_reducible first | exact HB.out | apply below_alloc | apply pw_below_drewN | apply below_drew1 | refine below_set ?_ GE183.out) | exact HB.out)⟩
                                    · rw [if_neg c21] at H
                                      exact absurd H (by simp)
                                  · rw [if_neg c20] at H
                                    exact absurd H (by simp)
                                · rw [if_neg c18] at H
                                  have c18b0 : (t187 == 0) = false := beq_eq_false_iff_ne.mpr c18
                                  have c18b1 : (t187 != 0) = true := bne_iff_ne.mpr c18
                                  simp only [Option.some.injEq, Prod.mk.injEq] at H
                                  obtain ⟨rfl, rfl⟩ := H
                                  try go_wp2
                                  have n0_ := Aside0.mk (Kd.V_drew HO_0.out)
                                  have n1_ := Aside0.mk (Kd.N_drew HO_4.out)
                                  have n2_ := Aside0.mk (Kd.V_drew HO_6.out)
                                  have n3_ := Aside0.mk (below_drew1 HB.out)
                                  clear HO_0
                                  clear HO_4
                                  clear HO_6
                                  clear HB
                                  have HO_0 := n0_
                                  have HO_4 := n1_
                                  have HO_6 := n2_
                                  have HB := n3_
                                  clear n0_ n1_ n2_ n3_
                                  have p177 : 0 ≤ (1 : Int) := (by omega)
                                  have q177 : 1 < (y168.length : Int) := of_decide_eq_true (by first | (with_reducible assumption) | assumption)
                                  obtain ⟨ad177, e177, hx177_0⟩ := Kd.at_int (Kd.V_reads' HO_6.out).2.2 1 p177 q177
                                  obtain rfl : ad173 = ad177 := (by injection e177)
                                  (try simp only [show (1 : Int).toNat = 1 from rfl, Nat.reduceMul, Nat.reduceEqDiff, Go.Addr.add, ↓reduceIte] at hx177_0)
                                  have qi177 : (1 < y168.length) = True := eq_true (by omega)
                                  (try rw [show ((1 : Int)).toNat = 1 from rfl] at hx177_0)
                                  replace p177 := eq_true p177
                                  replace q177 := eq_true q177
                                  have q46 : ((wrap64 (6 + (wrap64 ((wrap64 ((wrap64 ((wrap64 (rd y168 2)) + (wrap64 ((wrap64 (rd y168 3)) * 256)))) + (wrap64 ((wrap64 (rd y168 4)) * 65536)))) + (wrap64 ((wrap64 (rd y168 5)) * 16777216)))))) : Int) ≤ ((y168.length : Int) : Int) := of_decide_eq_true (by first | (with_reducible assumption) | assumption)
                                  obtain ⟨i046, hi046, _, hsz46, _⟩ := info_parts info5
                                  have hroom46 : y168.length ≤ c10 := (Kd.V_reads' HO_6.out).2.1
                                  have hC46 : Kd.F (Kd.int .u8) _ _ (some ad173) y168.length y168 := (Kd.V_at (base := w.heap.size) HO_6.out).2.2
                                  have ql46 : (6 : Int) ≤ ((wrap64 (6 + (wrap64 ((wrap64 ((wrap64 ((wrap64 (rd y168 2)) + (wrap64 ((wrap64 (rd y168 3)) * 256)))) + (wrap64 ((wrap64 (rd y168 4)) * 65536)))) + (wrap64 ((wrap64 (rd y168 5)) * 16777216)))))) : Int) := of_decide_eq_true (by first | (with_reducible assumption) | assumption)
                                  have hcut46 := cut_mid (P := Try.prog) 22 5 .i64 .i64 Try.underlying22 hi046 1 hsz46 (some ad173) y168.length c10 6 (wrap64 (6 + (wrap64 ((wrap64 ((wrap64 ((wrap64 (rd y168 2)) + (wrap64 ((wrap64 (rd y168 3)) * 256)))) + (wrap64 ((wrap64 (rd y168 4)) * 65536)))) + (wrap64 ((wrap64 (rd y168 5)) * 16777216)))))) (by omega) ql46 q46 hroom46
                                  have hr46 := Kd.F_mid (lo := (6 : Int).toNat) (hi := ((wrap64 (6 + (wrap64 ((wrap64 ((wrap64 ((wrap64 (rd y168 2)) + (wrap64 ((wrap64 (rd y168 3)) * 256)))) + (wrap64 ((wrap64 (rd y168 4)) * 65536)))) + (wrap64 ((wrap64 (rd y168 5)) * 16777216)))))) : Int).toNat) (c := c10) hC46 (by omega) (by omega) hroom46
                                  obtain ⟨A46, hA46⟩ : ∃ A1, A1 = (if c10 = (6 : Int).toNat then (some ad173) else ((some ad173) : Option Addr).map (·.add ((6 : Int).toNat * 1))) := ⟨_, rfl⟩
                                  obtain ⟨c46, hc46⟩ : ∃ c1, c1 = c10 - (6 : Int).toNat := ⟨_, rfl⟩
                                  have hy46 : y178.length = ((wrap64 (6 + (wrap64 ((wrap64 ((wrap64 ((wrap64 (rd y168 2)) + (wrap64 ((wrap64 (rd y168 3)) * 256)))) + (wrap64 ((wrap64 (rd y168 4)) * 65536)))) + (wrap64 ((wrap64 (rd y168 5)) * 16777216)))))) : Int).toNat - (6 : Int).toNat := (by rw [Ny178.out, List.length_drop, List.length_take] <;> omega)
                                  rw [show ((y168).take ((wrap64 (6 + (wrap64 ((wrap64 ((wrap64 ((wrap64 (rd y168 2)) + (wrap64 ((wrap64 (rd y168 3)) * 256)))) + (wrap64 ((wrap64 (rd y168 4)) * 65536)))) + (wrap64 ((wrap64 (rd y168 5)) * 16777216)))))) : Int).toNat).drop (6 : Int).toNat = y178 from Ny178.out.symm] at hr46
                                  replace hr46 : Kd.F (Kd.int .u8) _ _ A46 y178.length y178 := (by rw [hA46]; exact hr46)
                                  rw [← hy46, ← hA46, ← hc46] at hcut46
                                  have HO182 := Aside0.mk (show Kd.V (Kd.int .u8) 5 _ w.heap.size _ (.slice A46 y178.length c46) y178 from Kd.V_mk (by rw [hy46, hc46]; exact Nat.sub_le_sub_right (Nat.le_trans (by omega) hroom46) _) hr46)
                                  have HC182 := Aside0.mk (show y178.length ≤ c46 from by rw [hy46, hc46]; exact Nat.sub_le_sub_right (Nat.le_trans (by omega) hroom46) _)
                                  clear hr46 hC46 hroom46 hi046 hsz46 hc46
                                  have KY46 := Aside0.mk hy46
                                  have KA46 := Aside0.mk hA46
                                  clear hy46 hA46
                                  replace q46 := eq_true q46
                                  refine start_ (n := 11) (S := fun w' => w'.cell? ⟨ad173.block, ad173.off + 1, none⟩ = some (.int .u8 (rd y168 1))) (ds := []) #[false, false, false, false, false, false, false, false, false, false, false] (by kernel_rfl) rfl rfl (hx177_0) (fun hHeld => ?_); refine with_tabW noonmarkref29_Read.tab8 noonmarkref29_Read.bits8 (fun HT_ HW_ => ?_)
                                  generalize wc.drew = w45 at HO_0 HO_4 HO_6 HB HO182 hx177_0 hHeld ⊢
                                  refine pure_ (i := 0) (N := some 52) (v := ?_) (a' := ?_) #[true, false, false, false, false, false, false, false, false, false, false] rfl rfl (any_of HT_.out (by kernel_rfl)) (fun _ _ _ h => h) (Or.inl ⟨by rfl, ?_⟩) ?_ ?_
                                  rotate_left
                                  · intro w'
                                    go_simp
                                    with_reducible rfl
                                  rotate_left
                                  · simp only [Act.put, List.setIfInBounds_toArray, List.set_cons_zero, List.set_cons_succ, i64_w, i32_w]
                                    rfl
                                  refine pure_ (i := 1) (N := some 53) (v := ?_) (a' := ?_) #[true, true, false, false, false, false, false, false, false, false, false] rfl rfl (any_of HT_.out (by kernel_rfl)) (fun _ _ _ h => h) (Or.inl ⟨by rfl, ?_⟩) ?_ ?_
                                  rotate_left
                                  · intro w'
                                    go_simp
                                    with_reducible rfl
                                  rotate_left
                                  · simp only [Act.put, List.setIfInBounds_toArray, List.set_cons_zero, List.set_cons_succ, i64_w, i32_w]
                                    rfl
                                  refine pure_ (i := 4) (N := some 56) (v := ?_) (a' := ?_) #[true, true, false, false, true, false, false, false, false, false, false] rfl rfl (any_of HT_.out (by kernel_rfl)) (fun _ _ _ h => h) (Or.inl ⟨by rfl, ?_⟩) ?_ ?_
                                  rotate_left
                                  · intro w'
                                    go_simp
                                    with_reducible rfl
                                  rotate_left
                                  · simp only [Act.put, List.setIfInBounds_toArray, List.set_cons_zero, List.set_cons_succ, i64_w, i32_w]
                                    rfl
                                  refine pure_ (i := 5) (N := some 57) (v := ?_) (a' := ?_) #[true, true, false, false, true, true, false, false, false, false, false] rfl rfl (any_of HT_.out (by kernel_rfl)) (fun _ _ _ h => h) (Or.inl ⟨by rfl, ?_⟩) ?_ ?_
                                  rotate_left
                                  · intro w'
                                    go_simp
                                    with_reducible rfl
                                  rotate_left
                                  · simp only [Act.put, List.setIfInBounds_toArray, List.set_cons_zero, List.set_cons_succ, i64_w, i32_w]
                                    rfl
                                  refine pure_ (i := 6) (N := some 58) (v := ?_) (a' := ?_) #[true, true, false, false, true, true, true, false, false, false, false] rfl rfl (any_of HT_.out (by kernel_rfl)) (fun _ _ _ h => h) (Or.inl ⟨by rfl, ?_⟩) ?_ ?_
                                  rotate_left
                                  · intro w'
                                    go_simp
                                    with_reducible rfl
                                  rotate_left
                                  · simp only [Act.put, List.setIfInBounds_toArray, List.set_cons_zero, List.set_cons_succ, i64_w, i32_w]
                                    rfl
                                  refine pure_ (i := 7) (N := some 59) (v := ?_) (a' := ?_) #[true, true, false, false, true, true, true, true, false, false, false] rfl rfl (any_of HT_.out (by kernel_rfl)) (fun _ _ _ h => h) (Or.inl ⟨by rfl, ?_⟩) ?_ ?_
                                  rotate_left
                                  · intro w'
                                    go_simp
                                    with_reducible rfl
                                  rotate_left
                                  · simp only [Act.put, List.setIfInBounds_toArray, List.set_cons_zero, List.set_cons_succ, i64_w, i32_w]
                                    rfl
                                  refine take_ (i := 2) (N := some 54) (v := ?_) (a' := ?_) #[true, true, true, false, true, true, true, true, false, false, false] rfl rfl (take_ofW HT_.out HW_.out (by kernel_rfl)) (fun _ _ _ h => h) (Or.inl ⟨by rfl, ?_⟩) hHeld ?_ ?_
                                  rotate_left
                                  · intro w' s0
                                    go_simp
                                    with_reducible rfl
                                  rotate_left
                                  · simp only [Act.put, List.setIfInBounds_toArray, List.set_cons_zero, List.set_cons_succ, i64_w, i32_w]
                                    rfl
                                  refine pure_ (i := 3) (N := some 55) (v := ?_) (a' := ?_) #[true, true, true, true, true, true, true, true, false, false, false] rfl rfl (any_of HT_.out (by kernel_rfl)) (fun _ _ _ h => h) (Or.inl ⟨by rfl, ?_⟩) ?_ ?_
                                  rotate_left
                                  · intro w'
                                    go_simp
                                    with_reducible rfl
                                  rotate_left
                                  · simp only [Act.put, List.setIfInBounds_toArray, List.set_cons_zero, List.set_cons_succ, i64_w, i32_w]
                                    rfl
                                  refine pure_ (i := 8) (N := some 60) (v := ?_) (a' := ?_) #[true, true, true, true, true, true, true, true, true, false, false] rfl rfl (any_of HT_.out (by kernel_rfl)) (fun _ _ _ h => h) (Or.inl ⟨by rfl, ?_⟩) ?_ ?_
                                  rotate_left
                                  · intro w'
                                    go_simp
                                    with_reducible rfl
                                  rotate_left
                                  · simp only [Act.put, List.setIfInBounds_toArray, List.set_cons_zero, List.set_cons_succ, i64_w, i32_w]
                                    rfl
                                  refine one_ (i := 9) (N := some 8) #[true, true, true, true, true, true, true, true, true, true, false] rfl rfl (one_of HT_.out (by kernel_rfl)) (by decide) (fun K hK => ?_)
                                  refine box_step ?hg (N := 8) ?hd (cs := #[.int .i64 0, .slice none 0 0]) (t := 24) ?hr ?_; (case hd => rfl); (case hg => rfl); (case hr => first | (go_simp; done) | (go_simp; rfl))
                                  intro gb183 hg w47 hbox hb
                                  have hlt_ := World.block_lt_of_cell? _ _ hHeld; (try rw [add_block] at hlt_); (try dsimp only at hlt_); rw [← hg] at hlt_; have HLT := Aside0.mk hlt_; clear hlt_
                                  have HS0_ := (hb.cell (World.block_lt_of_cell? _ _ (hHeld))).trans (hHeld)
                                  have n0_ := Aside0.mk (Kd.V_below (Kd.V_elderB (by (with_reducible repeat (first | apply Kd.V_alloc | apply Kd.V_drewN | apply Kd.V_drew)); exact HO_0.out) gb183 (Nat.le_of_eq hg.symm)) hb)
                                  have n1_ := Aside0.mk (Kd.N_below (Kd.N_elderB (by (with_reducible repeat (first | apply Kd.N_alloc | apply Kd.N_drewN | apply Kd.N_drew)); exact HO_4.out) gb183 (Nat.le_of_eq hg.symm)) hb)
                                  have n2_ := Aside0.mk (Kd.V_below (Kd.V_elderB (by (with_reducible repeat (first | apply Kd.V_alloc | apply Kd.V_drewN | apply Kd.V_drew)); exact HO_6.out) gb183 (Nat.le_of_eq hg.symm)) hb)
                                  have n3_ := Aside0.mk (Kd.V_below (Kd.V_elderB (by (with_reducible repeat (first | apply Kd.V_alloc | apply Kd.V_drewN | apply Kd.V_drew)); exact HO182.out) gb183 (Nat.le_of_eq hg.symm)) hb)
                                  have n4_ := Aside0.mk (below_step (by repeat (first | (with_reducible first | exact HB.out | apply below_alloc | apply pw_below_drewN | apply below_drew1) | exact HB.out)) hb)
                                  have n5_ := Aside0.mk (hbox)
                                  have n6_ := Aside0.mk ((by rw [hg]; exact (below_size (by repeat (first | (with_reducible first | exact HB.out | apply below_alloc | apply pw_below_drewN | apply below_drew1) | exact HB.out))) : w.heap.size ≤ gb183))
                                  have n7_ := Aside0.mk ((by rw [hg]; exact (below_size (by repeat (first | (with_reducible first | exact HB.out | apply below_alloc | apply pw_below_drewN | apply below_drew1) | exact HB.out))) : w.heap.size ≤ gb183))
                                  clear HO_0
                                  clear HO_4
                                  clear HO_6
                                  clear HO182
                                  clear HB
                                  have HO_0 := n0_
                                  have HO_4 := n1_
                                  have HO_6 := n2_
                                  have HO182 := n3_
                                  have HB := n4_
                                  have BK183 := n5_
                                  have GW183 := n6_
                                  have GE183 := n7_
                                  clear n0_ n1_ n2_ n3_ n4_ n5_ n6_ n7_
                                  clear hb hbox hg
                                  refine hK.out _ _ (HS0_) (fun hHeld => ?_)
                                  clear hK K
                                  refine norm_ (a' := ?_) ?_ ?_
                                  rotate_left
                                  · show Act.put _ (some 8) _ = _
                                    simp only [Act.put, List.setIfInBounds_toArray, List.set_cons_zero, List.set_cons_succ, i64_w, i32_w]
                                    rfl
                                  refine one_ (i := 10) (N := none) #[true, true, true, true, true, true, true, true, true, true, true] rfl rfl (one_of HT_.out (by kernel_rfl)) (by decide) (fun K hK => ?_)
                                  have hs48 : w47.cell? ⟨gb183, 0, none⟩ = some (.int .i64 0) := (blk_cell BK183.out 0).trans rfl
                                  have hfs48 := blk_frozen BK183.out 0
                                  have hs49 : w47.cell? ⟨gb183, 1, none⟩ = some (.slice none 0 0) := (blk_cell BK183.out 1).trans rfl
                                  have hfs49 := blk_frozen BK183.out 1
                                  refine skip_ (w1 := ?_) (by rfl) rfl ?_ ?_
                                  rotate_left
                                  · go_simp
                                    rfl
                                  refine hK.out _ _ (((cell_far (p := ⟨gb183, _, none⟩) (by first | exact Nat.ne_of_lt HLT.out | (rw [add_block]; exact Nat.ne_of_lt HLT.out) | (show (Addr.add _ _).block ≠ _; rw [add_block]; exact Nat.ne_of_lt HLT.out) | (dsimp only; exact Nat.ne_of_lt HLT.out)) _).trans (((cell_far (p := ⟨gb183, _, none⟩) (by first | exact Nat.ne_of_lt HLT.out | (rw [add_block]; exact Nat.ne_of_lt HLT.out) | (show (Addr.add _ _).block ≠ _; rw [add_block]; exact Nat.ne_of_lt HLT.out) | (dsimp only; exact Nat.ne_of_lt HLT.out)) _).trans (hHeld))))) (fun hHeld => ?_)
                                  clear hK K
                                  refine done_ (done_of HT_.out (by kernel_rfl)) ?_
                                  have hcz50_0 : w47.cell? ⟨gb183, 0, none⟩ = some (.int .i64 0) := (blk_cell BK183.out 0).trans rfl
                                  have hcz50_1 : w47.cell? ⟨gb183, 1, none⟩ = some (.slice none 0 0) := (blk_cell BK183.out 1).trans rfl
                                  have hfz50_0 := blk_frozen BK183.out 0
                                  have hfz50_1 := blk_frozen BK183.out 1
                                  try go_wp2_with (first | ((with_reducible refine gate_callee (f := 12) rfl ?_); refine goesL_ (some 63) rfl rfl Try.func12 (by kernel_rfl) rfl #[.agg #[.int .i64 (wrap64 (rd y168 1)), .slice A46 y178.length c46]] rfl (by (try simp only [List.map_toArray, List.map_cons, List.map_nil]); first | done | rfl | (simp only [List.length_drop, List.length_take]; rfl)) ?_; (with_reducible refine (noonmarkref29_Frame.calls kj8 (wrap64 (rd y168 1)) _ _ y178 t184 t187 _ ?side1 ?side2 A17.out).mono ?_); (case side1 => refine (Kd.V_reads' (e := 5) (base := w.heap.size) (ok := fun k_ => (((P0_ k_ ∨ w.heap.size ≤ k_) ∧ some k_ ≠ (u4 : Value).ownBlock) ∧ k_ ≠ gb183)) (n := y178.length) (c := c46) ?_).2.2; exact (by (with_reducible repeat (first | apply Kd.V_alloc | apply Kd.V_drewN | apply Kd.V_drew)); exact (Kd.V_mono (Kd.V_far (p := ⟨gb183, 1, none⟩) (Kd.V_far (p := ⟨gb183, 0, none⟩) (Kd.V_mono HO182.out (fun k_ hk => (⟨hk, hk.2⟩ : _ ∧ k_ ≠ gb183))) (fun _ hk => hk.2) (.int .i64 (wrap64 (rd y168 1)))) (fun _ hk => hk.2) (.slice A46 y178.length c46)) (fun _ h_ => h_.1)))); (case side2 => exact (Kd.V_reads' HO182.out).2.1); rintro e w51 ⟨v185, rfl, ho0, hb⟩; refine ⟨_, rfl, ?_⟩; have n0_ := Aside0.mk (Kd.V_elder' (by (with_reducible repeat (first | apply Kd.V_alloc | apply Kd.V_drewN | apply Kd.V_drew)); exact (Kd.V_mono (Kd.V_far (p := ⟨gb183, 1, none⟩) (Kd.V_far (p := ⟨gb183, 0, none⟩) (Kd.V_mono HO_0.out (fun k_ hk => (⟨hk, hk.2⟩ : _ ∧ k_ ≠ gb183))) (fun _ hk => hk.2) (.int .i64 (wrap64 (rd y168 1)))) (fun _ hk => hk.2) (.slice A46 y178.length c46)) (fun _ h_ => h_.1))) (Kd.R_base ho0) hb); have n1_ := Aside0.mk (Kd.N_elder' (by (with_reducible repeat (first | apply Kd.N_alloc | apply Kd.N_drewN | apply Kd.N_drew)); exact (Kd.N_mono (Kd.N_far (p := ⟨gb183, 1, none⟩) (Kd.N_far (p := ⟨gb183, 0, none⟩) (Kd.N_mono HO_4.out (fun k_ hk => (⟨hk, hk.2⟩ : _ ∧ k_ ≠ gb183))) (fun _ hk => hk.2) (.int .i64 (wrap64 (rd y168 1)))) (fun _ hk => hk.2) (.slice A46 y178.length c46)) (fun _ h_ => h_.1))) (Kd.R_base ho0) hb); have n2_ := Aside0.mk (Kd.V_elder' (by (with_reducible repeat (first | apply Kd.V_alloc | apply Kd.V_drewN | apply Kd.V_drew)); exact (Kd.V_mono (Kd.V_far (p := ⟨gb183, 1, none⟩) (Kd.V_far (p := ⟨gb183, 0, none⟩) (Kd.V_mono HO_6.out (fun k_ hk => (⟨hk, hk.2⟩ : _ ∧ k_ ≠ gb183))) (fun _ hk => hk.2) (.int .i64 (wrap64 (rd y168 1)))) (fun _ hk => hk.2) (.slice A46 y178.length c46)) (fun _ h_ => h_.1))) (Kd.R_base ho0) hb); have n3_ := Aside0.mk (Kd.V_elder' (by (with_reducible repeat (first | apply Kd.V_alloc | apply Kd.V_drewN | apply Kd.V_drew)); exact (Kd.V_mono (Kd.V_far (p := ⟨gb183, 1, none⟩) (Kd.V_far (p := ⟨gb183, 0, none⟩) (Kd.V_mono HO182.out (fun k_ hk => (⟨hk, hk.2⟩ : _ ∧ k_ ≠ gb183))) (fun _ hk => hk.2) (.int .i64 (wrap64 (rd y168 1)))) (fun _ hk => hk.2) (.slice A46 y178.length c46)) (fun _ h_ => h_.1))) (Kd.R_base ho0) hb); have n4_ := Aside0.mk (Kd.R_lower (Kd.R_newM (M := fun k_ => (w.heap.size ≤ k_)) ho0 (below_size (by repeat (first | (with_reducible first | exact HB.out | apply below_alloc | apply pw_below_drewN | apply below_drew1 | refine below_set ?_ GE183.out) | exact HB.out))) (fun k_ h_ => h_)) (below_size (by repeat (first | (with_reducible first | exact HB.out | apply below_alloc | apply pw_below_drewN | apply below_drew1 | refine below_set ?_ GE183.out) | exact HB.out)))); have n5_ := Aside0.mk (blk_below (g := gb183) (o := .cells #[.int .i64 (wrap64 (rd y168 1)), .slice A46 y178.length c46] 24 (0, 0)) (by (with_reducible repeat (first | refine blk_drewN ?_ _ | refine blk_drew ?_ | refine blk_alloc ?_ _)); refine blk_put (cs := #[.int .i64 (wrap64 (rd y168 1)), .slice none 0 0]) ?_ 1 _ rfl; (with_reducible repeat (first | refine blk_drewN ?_ _ | refine blk_drew ?_ | refine blk_alloc ?_ _)); refine blk_put (cs := #[.int .i64 0, .slice none 0 0]) ?_ 0 _ rfl; (with_reducible repeat (first | refine blk_drewN ?_ _ | refine blk_drew ?_ | refine blk_alloc ?_ _)); exact BK183.out) hb); have n6_ := Aside0.mk (below_step (by repeat (first | (with_reducible first | exact HB.out | apply below_alloc | apply pw_below_drewN | apply below_drew1 | refine below_set ?_ GE183.out) | exact HB.out)) hb); clear HO_0; clear HO_4; clear HO_6; clear HO182; clear BK183; clear HB; have HO_0 := n0_; have HO_4 := n1_; have HO_6 := n2_; have HO182 := n3_; have HO186 := n4_; have BK183 := n5_; have HB := n6_; clear n0_ n1_ n2_ n3_ n4_ n5_ n6_; (try clear hb); (try clear hb2); (try clear hk); (try clear hi); (try clear ho0)))
                                  go_ret2
                                  exact ⟨_, by first | rfl | (simp [errW_none, errW_some] <;> rfl) | (simp [*, errW_none, errW_some] <;> rfl), by (with_reducible repeat (first | apply Kd.N_alloc | apply Kd.N_drewN | apply Kd.N_drew)); exact Kd.N_mono HO_4.out (fun _ hk => hk.1.1), by repeat (first | (with_reducible first | exact HB.out | apply below_alloc | apply pw_below_drewN | apply below_drew1 | refine below_set ?_ GE183.out) | exact HB.out)⟩
                              · rw [if_neg c16] at H
                                exact absurd H (by simp)
                            · rw [if_neg c15] at H
                              exact absurd H (by simp)
                          · rw [if_neg c14] at H
                            exact absurd H (by simp)
                  · rw [if_neg c8] at H
                    exact absurd H (by simp)
                · rw [if_neg c7] at H
                  exact absurd H (by simp)
              · rw [if_neg c6] at H
                exact absurd H (by simp)
            · rw [if_neg c5] at H
              exact absurd H (by simp)
          · rw [if_neg c4] at H
            exact absurd H (by simp)
        · rw [if_neg c3] at H
          exact absurd H (by simp)
      · rw [if_neg c2] at H
        have c2b0 : decide (10 ≤ (wrap64 ((l0.length : Int) - x5_1))) = false := decide_eq_false c2
        clear c2
        simp only [Option.some.injEq, Prod.mk.injEq] at H
        obtain ⟨rfl, rfl⟩ := H
        go_wp2
        go_ret2
        exact ⟨_, by first | rfl | (simp [errW_none, errW_some] <;> rfl) | (simp [*, errW_none, errW_some] <;> rfl), by (with_reducible repeat (first | apply Kd.N_alloc | apply Kd.N_drewN | apply Kd.N_drew)); exact HO_4.out, by repeat (first | (with_reducible first | exact HB.out | apply below_alloc | apply pw_below_drewN | apply below_drew1) | exact HB.out)⟩

end Go.Proofs.Ytmcdpgopjfpjeaa.S
