-- Written by a program of this session for this claim (it follows the print's forms). Not trusted: Lean checks it.
import Derived.Test.YtlonanlogdokfaaS0
import Derived.Test.YtlonanlogdokfaaS2
import Derived.Test.YtlonanlogdokfaaS3
import Derived.Test.YtlonanlogdokfaaS4
import Derived.Test.YtlonanlogdokfaaS5
namespace Go.Proofs.Ytlonanlogdokfaa.S
open Go.RowKit Go.Proofs.YtlonanlogdokfaaW.PrintWords Go.Proofs.YtlonanlogdokfaaW.PrintLast Go.Proofs.YtlonanlogdokfaaW.PrintMore
attribute [local go_sem] max2_int min2_int max_two min_two max_three min_three max_four min_four   -- for this text's walks alone
set_option linter.unusedVariables false
set_option linter.unusedSimpArgs false

/-! ### expand_From: function 11 -/
/-! slices.SortFunc over fires: order's walk again with the count of draws, the order itself, and the contract in reading form -/
section
variable {P : Program} {ops : Array Oper} {rest : List Oper} {o : Oper} {a : Act} {Q : Exit → Act → World → Prop} {Kc : Act → World → Prop}
theorem box_eventD {W : World} (hgd : o.guard = none) {N : Tmp} (_hd : o.dst = some N) {cs : Array Value} {t : TypeId}
    (hrun : (execOp a.eval o).run P W = .ok (.value (.pointer (some ⟨W.heap.size, 0, none⟩))) (W.alloc (.cells cs t (0, 0))))
    (h : ∀ g, g = W.heap.size → ∀ w1, w1.heap[g]? = some (.cells cs t (0, 0)) → Below W.heap.size W w1 → w1.drawn = W.drawn → wpList P ops Q rest (a.put o.dst (.pointer (some ⟨g, 0, none⟩))) w1) : wpList P ops Q (o :: rest) a W :=
  Kd.event_run hgd hrun (h _ rfl _ (blk_new W _) (below_alloc (Below.refl _ _) _) rfl)
theorem Kd.R_lit_stepD {α : Type} (d : Kd α) {w0 W : World} (base e : Nat) (hw : Region.wanted o (yielded ops a.tmps) = true) {N : Tmp} (_hd : o.dst = some N) {xs : List α} {inner : List Value} {ok okp : Nat → Prop}
    (hrun : (execOp a.eval o).run P W = .ok (.value (.slice (some ⟨W.heap.size, 0, none⟩) xs.length xs.length)) (W.alloc (.cells inner.toArray e)))
    (hrep : Reps (d.M W base okp) d.sz xs inner) (hok : ∀ k, okp k → ok k) (hfresh : ok W.heap.size) (HB : Below base w0 W) (hbase : base ≤ W.heap.size) (hm : xs.length ≤ 9223372036854775807)
    (h : ∀ v1 w1, d.R e w1 base ok v1 xs → Below base w0 w1 → W.grownBy w1 none → (∃ b, v1.ownBlock = some b ∧ W.heap.size ≤ b) → w1.drawn = W.drawn → Kc (a.put o.dst v1) w1) : if Region.wanted o (yielded ops a.tmps) = true then Oper.wp P o a W Kc Q else Kc (a.put o.dst undef) W := by
  refine event_step hw hrun (h _ _ ⟨fun k hk => ?_, inner, ?_, ?_⟩ (HB.alloc hbase _) (World.grownBy_alloc W _ none) ⟨W.heap.size, by simp [Value.ownBlock], Nat.le_refl _⟩ rfl)
  · have : W.heap.size = k := by simpa [Value.ownBlock] using hk
    subst this
    exact hfresh
  · have h2 := World.ownsRow_lit (base := base) (e := e) (size := d.sz) W inner.toArray xs.length hbase (by simpa [maxLen] using hm) (by simpa using hrep.1)
    simpa using h2
  · refine hrep.imp_ (fun p c hp => d.M_mono (fun k hk => ⟨hok k hk.1, fun he => ?_⟩) (Kd.M_below (d.M_bound hp) (below_alloc (Below.refl _ _) _)))
    have h3 : k = W.heap.size := by simpa [Value.ownBlock] using he
    have := hk.2.2.1
    omega
end
set_option maxHeartbeats 8000000 in
set_option maxRecDepth 100000 in
theorem ordD (k : Nat) (a0_0 : Int) (a0_1 : Int) (a0_2 : Int) (a0_3 : Int) (a1_0 : Int) (a1_1 : Int) (a1_2 : Int) (a1_3 : Int) (r : Int) (w : World) (h : expand_order.f k a0_0 a0_1 a0_2 a0_3 a1_0 a1_1 a1_2 a1_3 = some r) :
    Calls Try.prog 21 #[.agg #[.int .i64 a0_0, .int .i64 a0_1, .int .i64 a0_2, .int .i64 a0_3], .agg #[.int .i64 a1_0, .int .i64 a1_1, .int .i64 a1_2, .int .i64 a1_3]] w fun e w' => e = .returned (.int .i64 r) ∧ Below w.heap.size w w' ∧ w.drawn ≤ w'.drawn := by
  have hu36 := Try.underlying36
  have HB := Aside0.mk (Below.refl w.heap.size w)
  have H : ((cmp_Compare_int.f a0_1 a1_1).bind fun t133 => ((cmp_Compare_int64.f a0_2 a1_2).bind fun t134 => ((cmp_Compare_int.f a0_0 a1_0).bind fun t135 => ((cmp_Or_int.f k (([t133, t134, t135] : List Int))).bind fun t139 => (some t139))))) = some r := h
  clear h
  replace H := Option.bind_eq_some_iff.mp H
  obtain ⟨t133, A30, H⟩ := H
  replace H : ((cmp_Compare_int64.f a0_2 a1_2).bind fun t134 => ((cmp_Compare_int.f a0_0 a1_0).bind fun t135 => ((cmp_Or_int.f k (([t133, t134, t135] : List Int))).bind fun t139 => (some t139)))) = some r := H
  have A3 := Aside0.mk A30
  clear A30
  replace H := Option.bind_eq_some_iff.mp H
  obtain ⟨t134, A40, H⟩ := H
  replace H : ((cmp_Compare_int.f a0_0 a1_0).bind fun t135 => ((cmp_Or_int.f k (([t133, t134, t135] : List Int))).bind fun t139 => (some t139))) = some r := H
  have A4 := Aside0.mk A40
  clear A40
  replace H := Option.bind_eq_some_iff.mp H
  obtain ⟨t135, A50, H⟩ := H
  replace H : ((cmp_Or_int.f k (([t133, t134, t135] : List Int))).bind fun t139 => (some t139)) = some r := H
  have A5 := Aside0.mk A50
  clear A50
  obtain ⟨y136, hy136⟩ : ∃ y_ : List Int, y_ = (([t133, t134, t135] : List Int)) := ⟨_, rfl⟩
  replace H : ((cmp_Or_int.f k y136).bind fun t139 => (some t139)) = some r := by first | (rw [hy136]; with_reducible exact H) | (have H2_ := (Option.bind_some _ _).symm.trans H; rw [hy136]; with_reducible exact H2_) | (have H2_ := (Option.bind_some _ _).symm.trans H; with_reducible exact H2_) | with_reducible exact H | (rw [hy136]; exact H) | exact H
  have Ny136 := Aside0.mk hy136
  clear hy136
  replace H := Option.bind_eq_some_iff.mp H
  obtain ⟨t139, A60, H⟩ := H
  replace H : (some t139) = some r := H
  have A6 := Aside0.mk A60
  clear A60
  obtain rfl := Option.some.inj H
  go_enter Try.func21, Try.ntmps21
  try go_wp2_with (first | ((with_reducible refine gate_dst (N := 2) rfl ?_); refine box_eventD ?hg (N := 2) ?hd (cs := #[.int .i64 a0_0, .int .i64 a0_1, .int .i64 a0_2, .int .i64 a0_3]) (t := 36) ?hr ?_; (case hd => rfl); (case hg => rfl); (case hr => first | (go_simp; done) | (go_simp; rfl)); intro gb131 hg w7 hbox hb hdr; have DW7 := Aside0.mk hdr; clear hdr; have n0_ := Aside0.mk (below_step (by repeat (first | (with_reducible first | exact HB.out | apply below_alloc | apply pw_below_drewN | apply below_drew1) | exact HB.out)) hb); have n1_ := Aside0.mk (hbox); have n2_ := Aside0.mk ((by rw [hg]; exact (below_size (by repeat (first | (with_reducible first | exact HB.out | apply below_alloc | apply pw_below_drewN | apply below_drew1) | exact HB.out))) : w.heap.size ≤ gb131)); have n3_ := Aside0.mk ((by rw [hg]; exact (below_size (by repeat (first | (with_reducible first | exact HB.out | apply below_alloc | apply pw_below_drewN | apply below_drew1) | exact HB.out))) : w.heap.size ≤ gb131)); clear HB; have HB := n0_; have BK131 := n1_; have GW131 := n2_; have GE131 := n3_; clear n0_ n1_ n2_ n3_; clear hb hbox hg) | ((with_reducible refine gate_dst (N := 3) rfl ?_); refine box_eventD ?hg (N := 3) ?hd (cs := #[.int .i64 a1_0, .int .i64 a1_1, .int .i64 a1_2, .int .i64 a1_3]) (t := 36) ?hr ?_; (case hd => rfl); (case hg => rfl); (case hr => first | (go_simp; done) | (go_simp; rfl)); intro gb132 hg w8 hbox hb hdr; have DW8 := Aside0.mk hdr; clear hdr; have n0_ := Aside0.mk (blk_below (g := gb131) (o := .cells #[.int .i64 a0_0, .int .i64 a0_1, .int .i64 a0_2, .int .i64 a0_3] 36 (0, 0)) (by (with_reducible repeat (first | refine blk_drewN ?_ _ | refine blk_drew ?_ | refine blk_alloc ?_ _)); exact BK131.out) hb); have n1_ := Aside0.mk (below_step (by repeat (first | (with_reducible first | exact HB.out | apply below_alloc | apply pw_below_drewN | apply below_drew1 | refine below_set ?_ GE131.out) | exact HB.out)) hb); have n2_ := Aside0.mk (hbox); have n3_ := Aside0.mk ((by rw [hg]; exact (below_size (by repeat (first | (with_reducible first | exact HB.out | apply below_alloc | apply pw_below_drewN | apply below_drew1 | refine below_set ?_ GE131.out) | exact HB.out))) : w.heap.size ≤ gb132)); have n4_ := Aside0.mk ((by rw [hg]; exact (below_size (by repeat (first | (with_reducible first | exact HB.out | apply below_alloc | apply pw_below_drewN | apply below_drew1 | refine below_set ?_ GE131.out) | exact HB.out))) : w.heap.size ≤ gb132)); have n5_ := Aside0.mk ((by rw [hg]; exact Nat.ne_of_lt (blk_lt (g := gb131) (o := .cells #[.int .i64 a0_0, .int .i64 a0_1, .int .i64 a0_2, .int .i64 a0_3] 36 (0, 0)) (by (with_reducible repeat (first | refine blk_drewN ?_ _ | refine blk_drew ?_ | refine blk_alloc ?_ _)); exact BK131.out)) : gb131 ≠ gb132)); have n6_ := Aside0.mk ((by rw [hg]; exact Nat.ne_of_gt (blk_lt (g := gb131) (o := .cells #[.int .i64 a0_0, .int .i64 a0_1, .int .i64 a0_2, .int .i64 a0_3] 36 (0, 0)) (by (with_reducible repeat (first | refine blk_drewN ?_ _ | refine blk_drew ?_ | refine blk_alloc ?_ _)); exact BK131.out)) : gb132 ≠ gb131)); clear BK131; clear HB; have BK131 := n0_; have HB := n1_; have BK132 := n2_; have GW132 := n3_; have GE132 := n4_; have NB131_132 := n5_; have NB132_131 := n6_; clear n0_ n1_ n2_ n3_ n4_ n5_ n6_; clear hb hbox hg))
  have n0_ := Aside0.mk (blk_drew BK131.out)
  have n1_ := Aside0.mk (blk_drew BK132.out)
  have n2_ := Aside0.mk (below_drew1 HB.out)
  clear BK131
  clear BK132
  clear HB
  have BK131 := n0_
  have BK132 := n1_
  have HB := n2_
  clear n0_ n1_ n2_
  refine start_ (n := 18) (S := fun w' => w'.cell? ⟨gb131, 0, none⟩ = some (.int .i64 a0_0) ∧ w'.cell? ⟨gb131, 1, none⟩ = some (.int .i64 a0_1) ∧ w'.cell? ⟨gb131, 2, none⟩ = some (.int .i64 a0_2) ∧ w'.cell? ⟨gb131, 3, none⟩ = some (.int .i64 a0_3) ∧ w'.cell? ⟨gb132, 0, none⟩ = some (.int .i64 a1_0) ∧ w'.cell? ⟨gb132, 1, none⟩ = some (.int .i64 a1_1) ∧ w'.cell? ⟨gb132, 2, none⟩ = some (.int .i64 a1_2) ∧ w'.cell? ⟨gb132, 3, none⟩ = some (.int .i64 a1_3)) (ds := []) #[false, false, false, false, false, false, false, false, false, false, false, false, false, false, false, false, false, false] (by kernel_rfl) rfl rfl ⟨(blk_cell BK131.out 0).trans rfl, (blk_cell BK131.out 1).trans rfl, (blk_cell BK131.out 2).trans rfl, (blk_cell BK131.out 3).trans rfl, (blk_cell BK132.out 0).trans rfl, (blk_cell BK132.out 1).trans rfl, (blk_cell BK132.out 2).trans rfl, (blk_cell BK132.out 3).trans rfl⟩ (fun hHeld => ?_); refine with_tabW expand_order.tab1 expand_order.bits1 (fun HT_ HW_ => ?_)
  generalize hw_ : w8.drew = w9 at BK131 BK132 HB hHeld ⊢
  have Dw9 := Aside0.mk (congrArg World.drawn hw_)
  clear hw_
  refine pure_ (i := 0) (N := some 5) (v := ?_) (a' := ?_) #[true, false, false, false, false, false, false, false, false, false, false, false, false, false, false, false, false, false] rfl rfl (any_of HT_.out (by kernel_rfl)) (fun _ _ _ h => h) (Or.inl ⟨by rfl, ?_⟩) ?_ ?_
  rotate_left
  · intro w'
    go_simp
    with_reducible rfl
  rotate_left
  · simp only [Act.put, List.setIfInBounds_toArray, List.set_cons_zero, List.set_cons_succ, i64_w, i32_w]
    rfl
  refine pure_ (i := 2) (N := some 7) (v := ?_) (a' := ?_) #[true, false, true, false, false, false, false, false, false, false, false, false, false, false, false, false, false, false] rfl rfl (any_of HT_.out (by kernel_rfl)) (fun _ _ _ h => h) (Or.inl ⟨by rfl, ?_⟩) ?_ ?_
  rotate_left
  · intro w'
    go_simp
    with_reducible rfl
  rotate_left
  · simp only [Act.put, List.setIfInBounds_toArray, List.set_cons_zero, List.set_cons_succ, i64_w, i32_w]
    rfl
  refine pure_ (i := 5) (N := some 10) (v := ?_) (a' := ?_) #[true, false, true, false, false, true, false, false, false, false, false, false, false, false, false, false, false, false] rfl rfl (any_of HT_.out (by kernel_rfl)) (fun _ _ _ h => h) (Or.inl ⟨by rfl, ?_⟩) ?_ ?_
  rotate_left
  · intro w'
    go_simp
    with_reducible rfl
  rotate_left
  · simp only [Act.put, List.setIfInBounds_toArray, List.set_cons_zero, List.set_cons_succ, i64_w, i32_w]
    rfl
  refine pure_ (i := 7) (N := some 12) (v := ?_) (a' := ?_) #[true, false, true, false, false, true, false, true, false, false, false, false, false, false, false, false, false, false] rfl rfl (any_of HT_.out (by kernel_rfl)) (fun _ _ _ h => h) (Or.inl ⟨by rfl, ?_⟩) ?_ ?_
  rotate_left
  · intro w'
    go_simp
    with_reducible rfl
  rotate_left
  · simp only [Act.put, List.setIfInBounds_toArray, List.set_cons_zero, List.set_cons_succ, i64_w, i32_w]
    rfl
  refine pure_ (i := 10) (N := some 15) (v := ?_) (a' := ?_) #[true, false, true, false, false, true, false, true, false, false, true, false, false, false, false, false, false, false] rfl rfl (any_of HT_.out (by kernel_rfl)) (fun _ _ _ h => h) (Or.inl ⟨by rfl, ?_⟩) ?_ ?_
  rotate_left
  · intro w'
    go_simp
    with_reducible rfl
  rotate_left
  · simp only [Act.put, List.setIfInBounds_toArray, List.set_cons_zero, List.set_cons_succ, i64_w, i32_w]
    rfl
  refine pure_ (i := 12) (N := some 17) (v := ?_) (a' := ?_) #[true, false, true, false, false, true, false, true, false, false, true, false, true, false, false, false, false, false] rfl rfl (any_of HT_.out (by kernel_rfl)) (fun _ _ _ h => h) (Or.inl ⟨by rfl, ?_⟩) ?_ ?_
  rotate_left
  · intro w'
    go_simp
    with_reducible rfl
  rotate_left
  · simp only [Act.put, List.setIfInBounds_toArray, List.set_cons_zero, List.set_cons_succ, i64_w, i32_w]
    rfl
  refine take_ (i := 1) (N := some 6) (v := ?_) (a' := ?_) #[true, true, true, false, false, true, false, true, false, false, true, false, true, false, false, false, false, false] rfl rfl (take_ofW HT_.out HW_.out (by kernel_rfl)) (fun _ _ _ h => h) (Or.inl ⟨by rfl, ?_⟩) hHeld ?_ ?_
  rotate_left
  · rintro w' ⟨s0, s1, s2, s3, s4, s5, s6, s7⟩
    go_simp
    with_reducible rfl
  rotate_left
  · simp only [Act.put, List.setIfInBounds_toArray, List.set_cons_zero, List.set_cons_succ, i64_w, i32_w]
    rfl
  refine take_ (i := 3) (N := some 8) (v := ?_) (a' := ?_) #[true, true, true, true, false, true, false, true, false, false, true, false, true, false, false, false, false, false] rfl rfl (take_ofW HT_.out HW_.out (by kernel_rfl)) (fun _ _ _ h => h) (Or.inl ⟨by rfl, ?_⟩) hHeld ?_ ?_
  rotate_left
  · rintro w' ⟨s0, s1, s2, s3, s4, s5, s6, s7⟩
    go_simp
    with_reducible rfl
  rotate_left
  · simp only [Act.put, List.setIfInBounds_toArray, List.set_cons_zero, List.set_cons_succ, i64_w, i32_w]
    rfl
  refine take_ (i := 6) (N := some 11) (v := ?_) (a' := ?_) #[true, true, true, true, false, true, true, true, false, false, true, false, true, false, false, false, false, false] rfl rfl (take_ofW HT_.out HW_.out (by kernel_rfl)) (fun _ _ _ h => h) (Or.inl ⟨by rfl, ?_⟩) hHeld ?_ ?_
  rotate_left
  · rintro w' ⟨s0, s1, s2, s3, s4, s5, s6, s7⟩
    go_simp
    with_reducible rfl
  rotate_left
  · simp only [Act.put, List.setIfInBounds_toArray, List.set_cons_zero, List.set_cons_succ, i64_w, i32_w]
    rfl
  refine take_ (i := 8) (N := some 13) (v := ?_) (a' := ?_) #[true, true, true, true, false, true, true, true, true, false, true, false, true, false, false, false, false, false] rfl rfl (take_ofW HT_.out HW_.out (by kernel_rfl)) (fun _ _ _ h => h) (Or.inl ⟨by rfl, ?_⟩) hHeld ?_ ?_
  rotate_left
  · rintro w' ⟨s0, s1, s2, s3, s4, s5, s6, s7⟩
    go_simp
    with_reducible rfl
  rotate_left
  · simp only [Act.put, List.setIfInBounds_toArray, List.set_cons_zero, List.set_cons_succ, i64_w, i32_w]
    rfl
  refine take_ (i := 11) (N := some 16) (v := ?_) (a' := ?_) #[true, true, true, true, false, true, true, true, true, false, true, true, true, false, false, false, false, false] rfl rfl (take_ofW HT_.out HW_.out (by kernel_rfl)) (fun _ _ _ h => h) (Or.inl ⟨by rfl, ?_⟩) hHeld ?_ ?_
  rotate_left
  · rintro w' ⟨s0, s1, s2, s3, s4, s5, s6, s7⟩
    go_simp
    with_reducible rfl
  rotate_left
  · simp only [Act.put, List.setIfInBounds_toArray, List.set_cons_zero, List.set_cons_succ, i64_w, i32_w]
    rfl
  refine take_ (i := 13) (N := some 18) (v := ?_) (a' := ?_) #[true, true, true, true, false, true, true, true, true, false, true, true, true, true, false, false, false, false] rfl rfl (take_ofW HT_.out HW_.out (by kernel_rfl)) (fun _ _ _ h => h) (Or.inl ⟨by rfl, ?_⟩) hHeld ?_ ?_
  rotate_left
  · rintro w' ⟨s0, s1, s2, s3, s4, s5, s6, s7⟩
    go_simp
    with_reducible rfl
  rotate_left
  · simp only [Act.put, List.setIfInBounds_toArray, List.set_cons_zero, List.set_cons_succ, i64_w, i32_w]
    rfl
  refine one_ (i := 4) (N := some 9) #[true, true, true, true, true, true, true, true, true, false, true, true, true, true, false, false, false, false] rfl rfl (one_of HT_.out (by kernel_rfl)) (by decide) (fun K hK => ?_)
  refine goes_ Try.func32 (by kernel_rfl) rfl #[.int .i64 a0_1, .int .i64 a1_1] (by rfl) rfl rfl (by (try simp only [List.map_toArray, List.map_cons, List.map_nil]); first | done | rfl | (simp only [List.length_drop, List.length_take]; rfl)) ?_
  with_reducible refine (cmp_Compare_int.calls a0_1 a1_1 t133 _ A3.out).mono ?_
  rintro e w' ⟨rfl, ⟨nd, rfl⟩⟩
  refine ⟨_, rfl, ?_⟩
  refine hK.out _ _ ⟨(blk_cell BK131.out 0).trans rfl, (blk_cell BK131.out 1).trans rfl, (blk_cell BK131.out 2).trans rfl, (blk_cell BK131.out 3).trans rfl, (blk_cell BK132.out 0).trans rfl, (blk_cell BK132.out 1).trans rfl, (blk_cell BK132.out 2).trans rfl, (blk_cell BK132.out 3).trans rfl⟩ (fun hHeld => ?_)
  clear hK K
  refine norm_ (a' := ?_) ?_ ?_
  rotate_left
  · show Act.put _ (some 9) _ = _
    simp only [Act.put, List.setIfInBounds_toArray, List.set_cons_zero, List.set_cons_succ, i64_w, i32_w]
    rfl
  refine one_ (i := 9) (N := some 14) #[true, true, true, true, true, true, true, true, true, true, true, true, true, true, false, false, false, false] rfl rfl (one_of HT_.out (by kernel_rfl)) (by decide) (fun K hK => ?_)
  refine goes_ Try.func33 (by kernel_rfl) rfl #[.int .i64 a0_2, .int .i64 a1_2] (by rfl) rfl rfl (by (try simp only [List.map_toArray, List.map_cons, List.map_nil]); first | done | rfl | (simp only [List.length_drop, List.length_take]; rfl)) ?_
  with_reducible refine (cmp_Compare_int64.calls a0_2 a1_2 t134 _ A4.out).mono ?_
  rintro e w' ⟨rfl, ⟨nd, rfl⟩⟩
  refine ⟨_, rfl, ?_⟩
  refine hK.out _ _ ⟨(blk_cell BK131.out 0).trans rfl, (blk_cell BK131.out 1).trans rfl, (blk_cell BK131.out 2).trans rfl, (blk_cell BK131.out 3).trans rfl, (blk_cell BK132.out 0).trans rfl, (blk_cell BK132.out 1).trans rfl, (blk_cell BK132.out 2).trans rfl, (blk_cell BK132.out 3).trans rfl⟩ (fun hHeld => ?_)
  clear hK K
  refine norm_ (a' := ?_) ?_ ?_
  rotate_left
  · show Act.put _ (some 14) _ = _
    simp only [Act.put, List.setIfInBounds_toArray, List.set_cons_zero, List.set_cons_succ, i64_w, i32_w]
    rfl
  refine one_ (i := 14) (N := some 19) #[true, true, true, true, true, true, true, true, true, true, true, true, true, true, true, false, false, false] rfl rfl (one_of HT_.out (by kernel_rfl)) (by decide) (fun K hK => ?_)
  refine goes_ Try.func32 (by kernel_rfl) rfl #[.int .i64 a0_0, .int .i64 a1_0] (by rfl) rfl rfl (by (try simp only [List.map_toArray, List.map_cons, List.map_nil]); first | done | rfl | (simp only [List.length_drop, List.length_take]; rfl)) ?_
  with_reducible refine (cmp_Compare_int.calls a0_0 a1_0 t135 _ A5.out).mono ?_
  rintro e w' ⟨rfl, ⟨nd, rfl⟩⟩
  refine ⟨_, rfl, ?_⟩
  refine hK.out _ _ ⟨(blk_cell BK131.out 0).trans rfl, (blk_cell BK131.out 1).trans rfl, (blk_cell BK131.out 2).trans rfl, (blk_cell BK131.out 3).trans rfl, (blk_cell BK132.out 0).trans rfl, (blk_cell BK132.out 1).trans rfl, (blk_cell BK132.out 2).trans rfl, (blk_cell BK132.out 3).trans rfl⟩ (fun hHeld => ?_)
  clear hK K
  refine norm_ (a' := ?_) ?_ ?_
  rotate_left
  · show Act.put _ (some 19) _ = _
    simp only [Act.put, List.setIfInBounds_toArray, List.set_cons_zero, List.set_cons_succ, i64_w, i32_w]
    rfl
  refine one_ (i := 15) (N := some 20) #[true, true, true, true, true, true, true, true, true, true, true, true, true, true, true, true, false, false] rfl rfl (one_of HT_.out (by kernel_rfl)) (by decide) (fun K hK => ?_)
  refine Kd.R_lit_stepD (Kd.int .i64) _ 3 ?hg (N := 20) ?hd (xs := ([t133, t134, t135] : List Int)) (inner := [.int .i64 t133, .int .i64 t134, .int .i64 t135]) (ok := fun _ => True) (okp := fun _ => True) ?hr ?hp (fun _ hk => hk) trivial (Below.refl _ _) (Nat.le_refl _) (by simp) ?_; (case hd => rfl); (case hg => rfl); (case hr => first | (go_simp; done) | (go_simp; rfl)); (case hp => exact (Reps.one (show Kd.M (Kd.int .i64) _ _ _ t133 [.int .i64 t133] from rfl) (Reps.one (show Kd.M (Kd.int .i64) _ _ _ t134 [.int .i64 t134] from rfl) (Reps.one (show Kd.M (Kd.int .i64) _ _ _ t135 [.int .i64 t135] from rfl) (Reps.none _ _)))))
  intro v137 w10 ho11 hb hg_ hnew_ hdr
  have Dw10 := Aside0.mk hdr
  clear hdr
  clear hg_ hnew_
  (first | rw [← Ny136.out] at ho11 | (simp only [Int.reduceToNat] at ho11; rw [← Ny136.out] at ho11))
  have n0_ := Aside0.mk (Kd.R_lower ho11 (below_size (by repeat (first | (with_reducible first | exact HB.out | apply below_alloc | apply pw_below_drewN | apply below_drew1 | refine below_set ?_ GE131.out | refine below_set ?_ GE132.out) | exact HB.out))))
  have n1_ := Aside0.mk (blk_below (g := gb131) (o := .cells #[.int .i64 a0_0, .int .i64 a0_1, .int .i64 a0_2, .int .i64 a0_3] 36 (0, 0)) (by (with_reducible repeat (first | refine blk_drewN ?_ _ | refine blk_drew ?_ | refine blk_alloc ?_ _)); exact BK131.out) hb)
  have n2_ := Aside0.mk (blk_below (g := gb132) (o := .cells #[.int .i64 a1_0, .int .i64 a1_1, .int .i64 a1_2, .int .i64 a1_3] 36 (0, 0)) (by (with_reducible repeat (first | refine blk_drewN ?_ _ | refine blk_drew ?_ | refine blk_alloc ?_ _)); exact BK132.out) hb)
  have n3_ := Aside0.mk (below_step (by repeat (first | (with_reducible first | exact HB.out | apply below_alloc | apply pw_below_drewN | apply below_drew1 | refine below_set ?_ GE131.out | refine below_set ?_ GE132.out) | exact HB.out)) hb)
  clear BK131
  clear BK132
  clear HB
  have HO138 := n0_
  have BK131 := n1_
  have BK132 := n2_
  have HB := n3_
  clear n0_ n1_ n2_ n3_
  clear hb ho11
  obtain ⟨Ao12, co12, eo12⟩ := Kd.R_slice HO138.out
  (first | subst eo12 | (injection eo12 with f1_ f2_ f3_; have f4_ := f1_.symm; have f5_ := f3_.symm; clear f1_ f2_ f3_; subst f4_; subst f5_))
  refine hK.out _ _ ⟨(blk_cell BK131.out 0).trans rfl, (blk_cell BK131.out 1).trans rfl, (blk_cell BK131.out 2).trans rfl, (blk_cell BK131.out 3).trans rfl, (blk_cell BK132.out 0).trans rfl, (blk_cell BK132.out 1).trans rfl, (blk_cell BK132.out 2).trans rfl, (blk_cell BK132.out 3).trans rfl⟩ (fun hHeld => ?_)
  clear hK K
  refine norm_ (a' := ?_) ?_ ?_
  rotate_left
  · show Act.put _ (some 20) _ = _
    simp only [Act.put, List.setIfInBounds_toArray, List.set_cons_zero, List.set_cons_succ, i64_w, i32_w]
    rfl
  refine one_ (i := 16) (N := some 21) #[true, true, true, true, true, true, true, true, true, true, true, true, true, true, true, true, true, false] rfl rfl (one_of HT_.out (by kernel_rfl)) (by decide) (fun K hK => ?_)
  refine goes_ Try.func31 (by kernel_rfl) rfl #[.slice Ao12 y136.length co12] (by rfl) rfl rfl (by (try simp only [List.map_toArray, List.map_cons, List.map_nil]); first | done | rfl | (simp only [List.length_drop, List.length_take]; rfl)) ?_
  with_reducible refine (cmp_Or_int.calls k _ _ y136 t139 _ ?side1 ?side2 A6.out).mono ?_
  (case side1 => repeat (first | exact (Kd.R_reads' HO138.out).2.2 | (with_reducible refine Kd.C_alloc ?_ _) | (with_reducible refine Kd.C_drewN ?_ _) | (with_reducible refine Kd.C_drew ?_)))
  (case side2 => exact (Kd.R_reads' HO138.out).2.1)
  rintro e w' ⟨rfl, ⟨nd, rfl⟩⟩
  refine ⟨_, rfl, ?_⟩
  refine hK.out _ _ ⟨(blk_cell BK131.out 0).trans rfl, (blk_cell BK131.out 1).trans rfl, (blk_cell BK131.out 2).trans rfl, (blk_cell BK131.out 3).trans rfl, (blk_cell BK132.out 0).trans rfl, (blk_cell BK132.out 1).trans rfl, (blk_cell BK132.out 2).trans rfl, (blk_cell BK132.out 3).trans rfl⟩ (fun hHeld => ?_)
  clear hK K
  refine norm_ (a' := ?_) ?_ ?_
  rotate_left
  · show Act.put _ (some 21) _ = _
    simp only [Act.put, List.setIfInBounds_toArray, List.set_cons_zero, List.set_cons_succ, i64_w, i32_w]
    rfl
  refine pure_ (i := 17) (N := some 4) (v := ?_) (a' := ?_) #[true, true, true, true, true, true, true, true, true, true, true, true, true, true, true, true, true, true] rfl rfl (any_of HT_.out (by kernel_rfl)) (fun _ _ _ h => h) (Or.inl ⟨by rfl, ?_⟩) ?_ ?_
  rotate_left
  · intro w'
    go_simp
    with_reducible rfl
  rotate_left
  · simp only [Act.put, List.setIfInBounds_toArray, List.set_cons_zero, List.set_cons_succ, i64_w, i32_w]
    rfl
  refine done_ (done_of HT_.out (by kernel_rfl)) ?_
  try go_wp2
  go_ret
  exact ⟨by first | rfl | (simp [errW_none, errW_some] <;> rfl) | (simp [*, errW_none, errW_some] <;> rfl), ⟨by repeat (first | (with_reducible first | exact HB.out | apply below_alloc | apply pw_below_drewN | apply below_drew1 | refine below_set ?_ GE131.out | refine below_set ?_ GE132.out) | exact HB.out), by have q_DW7 := DW7.out; have q_DW8 := DW8.out; have q_Dw10 := Dw10.out; have q_Dw9 := Dw9.out; dsimp only [World.drewN, World.drew] at q_DW7 q_DW8 q_Dw10 q_Dw9 ⊢; omega⟩⟩
theorem grow_of_below {W W' : World} (hb : Below W.heap.size W W') (hd : W.drawn ≤ W'.drawn) : ∃ q os', W' = Go.Sort.grow (W.drewN q) os' := by
  refine ⟨W'.drawn - W.drawn, W'.heap.extract W.heap.size W'.heap.size, ?_⟩
  have hh : W'.heap = W.heap ++ W'.heap.extract W.heap.size W'.heap.size := by
    apply Array.ext_getElem?
    intro k
    rw [Array.getElem?_append]
    by_cases hk : k < W.heap.size
    · rw [if_pos hk]; exact hb.block k hk
    · rw [if_neg hk, Array.getElem?_extract]
      by_cases h2 : k < W'.heap.size
      · rw [if_pos (by omega), show W.heap.size + (k - W.heap.size) = k by omega]
      · rw [if_neg (by omega), Array.getElem?_eq_none (by omega)]
  obtain ⟨h', t', d', o', u'⟩ := W'
  obtain ⟨h₀, t₀, d₀, o₀, u₀⟩ := W
  have e1 := hb.os; have e2 := hb.tape; have e3 := hb.output
  dsimp only at e1 e2 e3 hd hh ⊢
  subst e1 e2 e3
  show World.mk _ _ _ _ _ = World.mk _ _ _ _ _
  simp only [World.mk.injEq]
  exact ⟨hh, rfl, by show d' = d₀ + (d' - d₀); omega, rfl, rfl⟩
instance : Inhabited S36 := ⟨z36⟩
/-- a fire's four cells -/
def encF (x : S36) : List Value := [.int .i64 x.f0, .int .i64 x.f1, .int .i64 x.f2, .int .i64 x.f3]
def cmpE (a b : Int) : Int := if a < b then -1 else if a > b then 1 else 0
/-- the order of fires, as cmp.Or tells it -/
def cfE (x y : S36) : Int := if cmpE x.f1 y.f1 = 0 then (if cmpE x.f2 y.f2 = 0 then cmpE x.f0 y.f0 else cmpE x.f2 y.f2) else cmpE x.f1 y.f1
theorem compare_ev (a b : Int) : cmp_Compare_int.f a b = some (cmpE a b) := by
  unfold cmp_Compare_int.f cmpE
  simp only [cmp_isNaN_int.f, bne_self_eq_false, Option.bind_some, Bool.false_eq_true, if_false]
  by_cases h1 : a < b
  · rw [if_pos h1, if_pos h1]
  · rw [if_neg h1, if_neg h1]
    by_cases h2 : a > b
    · rw [if_pos h2, if_pos h2]
    · rw [if_neg h2, if_neg h2]
theorem compare64_ev (a b : Int) : cmp_Compare_int64.f a b = some (cmpE a b) := by
  unfold cmp_Compare_int64.f cmpE
  simp only [cmp_isNaN_int64.f, bne_self_eq_false, Option.bind_some, Bool.false_eq_true, if_false]
  by_cases h1 : a < b
  · rw [if_pos h1, if_pos h1]
  · rw [if_neg h1, if_neg h1]
    by_cases h2 : a > b
    · rw [if_pos h2, if_pos h2]
    · rw [if_neg h2, if_neg h2]
theorem or_ev (a b c : Int) (k : Nat) : cmp_Or_int.f (k + 4) [a, b, c] = some (if a = 0 then (if b = 0 then c else b) else a) := by
  unfold cmp_Or_int.f
  rw [cmp_Or_int.l0, if_pos (by simp), if_pos (by decide), if_pos (by simp)]
  by_cases h1 : a = 0
  · rw [if_pos (by show a = 0; exact h1), if_pos h1, show wrap64 (0 + 1) = 1 by decide +kernel, cmp_Or_int.l0, if_pos (by simp), if_pos (by decide), if_pos (by simp)]
    by_cases h2 : b = 0
    · rw [if_pos (by show b = 0; exact h2), if_pos h2, show wrap64 (1 + 1) = 2 by decide +kernel, cmp_Or_int.l0, if_pos (by simp), if_pos (by decide), if_pos (by simp)]
      by_cases h3 : c = 0
      · rw [if_pos (by show c = 0; exact h3), show wrap64 (2 + 1) = 3 by decide +kernel, cmp_Or_int.l0, if_neg (by simp), h3]
      · rw [if_neg (by show ¬ c = 0; exact h3)]; rfl
    · rw [if_neg (by show ¬ b = 0; exact h2), if_neg h2]; rfl
  · rw [if_neg (by show ¬ a = 0; exact h1), if_neg h1]; rfl
theorem order_ev (x y : S36) (k : Nat) : expand_order.f (k + 4) x.f0 x.f1 x.f2 x.f3 y.f0 y.f1 y.f2 y.f3 = some (cfE x y) := by
  unfold expand_order.f
  rw [compare_ev, Option.bind_some, compare64_ev, Option.bind_some, compare_ev, Option.bind_some, or_ev, Option.bind_some]
  rfl
theorem ltE (x y : S36) : ltOf cfE x y = decide (x.f1 < y.f1 ∨ (x.f1 = y.f1 ∧ (x.f2 < y.f2 ∨ (x.f2 = y.f2 ∧ x.f0 < y.f0)))) := by
  unfold ltOf cfE cmpE
  repeat' split
  all_goals (first | (rw [decide_eq_decide]; omega) | omega)
theorem swoE : Go.Sort.SWO (ltOf cfE) where
  irrefl x := by rw [ltE]; simp
  trans x y z h1 h2 := by rw [ltE, decide_eq_true_eq] at *; omega
  ntrans x y z h1 h2 := by rw [ltE, decide_eq_false_iff_not] at *; omega
theorem cmpLaysE (blk off size : Nat) (w : World) : CmpLays Try.prog 21 #[] encF 4 cfE blk off size w :=
  fun _ _ _ _ x y => (ordD 4 x.f0 x.f1 x.f2 x.f3 y.f0 y.f1 y.f2 y.f3 (cfE x y) _ (order_ev x y 0)).mono fun _ _ ⟨he, hb, hd⟩ => ⟨he, grow_of_below hb hd⟩
/-- the fires, sorted as slices.SortFunc sorts them -/
def sortE (l : List S36) : List S36 := if l = [] then [] else (Go.Sort.pdq (ltOf cfE) l.toArray 0 l.toArray.size (Lib.bitLen l.toArray.size) true true).toList
theorem sortE_perm (l : List S36) : (sortE l).Perm l := by
  unfold sortE
  by_cases h : l = []
  · rw [if_pos h, h]
  · rw [if_neg h]
    have h1 := (Go.Sort.pdq_sorts (ltOf cfE) swoE l.toArray 0 l.toArray.size (Lib.bitLen l.toArray.size) true true (Nat.zero_le _) (Nat.le_refl _) (Or.inl rfl)).1
    have h2 := h1.2.2
    rw [Array.extract_size, show ∀ d : Array S36, d.size = l.toArray.size → d.extract 0 l.toArray.size = d from fun d hd => by rw [← hd, Array.extract_size]] at h2
    · exact h2
    · exact h1.1
theorem sortE_length (l : List S36) : (sortE l).length = l.length := (sortE_perm l).length_eq
theorem reps_flat {W : World} {base : Nat} {ok : Nat → Prop} {xs : List S36} {inner : List Value} (h : Reps (k36.M W base ok) 4 xs inner) : inner = (Go.Sort.flatK encF 4 xs.toArray).toList := by
  apply List.ext_getElem?
  intro t
  by_cases ht : t < xs.length * 4
  · have hj : t / 4 < xs.length := by omega
    have hx : xs[t / 4]? = some xs[t / 4] := List.getElem?_eq_getElem hj
    have hc := k36_openM (h.2 (t / 4) _ hx)
    have h1 : ((inner.drop (t / 4 * 4)).take 4)[t % 4]? = inner[t]? := by
      rw [List.getElem?_take_of_lt (by omega), List.getElem?_drop, show t / 4 * 4 + t % 4 = t by omega]
    have h2 := Go.Sort.get_flatK encF 4 xs.toArray t (by simpa using ht)
    have h3 : t < (Go.Sort.flatK encF 4 xs.toArray).size := by rw [Go.Sort.size_flatK]; simpa using ht
    have h4 : xs.toArray[t / 4]! = xs[t / 4] := by rw [getElem!_pos xs.toArray _ (by simpa using hj)]; simp
    rw [getElem!_pos (Go.Sort.flatK encF 4 xs.toArray) _ h3, h4] at h2
    have h6 : (Go.Sort.flatK encF 4 xs.toArray).toList[t]? = some ((encF xs[t / 4])[t % 4]!) := by rw [Array.getElem?_toList, Array.getElem?_eq_getElem h3, h2]
    rw [← h1, hc, h6]
    have h5 : t % 4 < 4 := Nat.mod_lt _ (by decide)
    unfold encF
    have : t % 4 = 0 ∨ t % 4 = 1 ∨ t % 4 = 2 ∨ t % 4 = 3 := by omega
    rcases this with e | e | e | e <;> rw [e] <;> rfl
  · rw [List.getElem?_eq_none (by rw [h.1]; omega), List.getElem?_eq_none (by simp; omega)]
theorem flat_reps (W : World) (base : Nat) (ok : Nat → Prop) (xs : List S36) : Reps (k36.M W base ok) 4 xs (Go.Sort.flatK encF 4 xs.toArray).toList := by
  refine ⟨by simp, fun j p hp => ?_⟩
  have hj : j < xs.length := by
    rcases Nat.lt_or_ge j xs.length with h | h
    · exact h
    · rw [List.getElem?_eq_none h] at hp; simp at hp
  have hq : xs.toArray[j]! = p := by
    rw [getElem!_pos _ _ (by simpa using hj)]
    rw [List.getElem?_eq_getElem hj] at hp
    simpa using hp
  have hcs : (((Go.Sort.flatK encF 4 xs.toArray).toList.drop (j * 4)).take 4) = encF p := by
    apply List.ext_getElem?
    intro t
    by_cases ht : t < 4
    · rw [List.getElem?_take_of_lt ht, List.getElem?_drop, Array.getElem?_toList]
      have h3 : j * 4 + t < (Go.Sort.flatK encF 4 xs.toArray).size := by rw [Go.Sort.size_flatK]; simp; omega
      have h2 := Go.Sort.get_flatK encF 4 xs.toArray (j * 4 + t) (by simpa using h3)
      rw [getElem!_pos (Go.Sort.flatK encF 4 xs.toArray) _ h3] at h2
      rw [Array.getElem?_eq_getElem h3, h2, show (j * 4 + t) / 4 = j by omega, show (j * 4 + t) % 4 = t by omega, hq]
      have : t = 0 ∨ t = 1 ∨ t = 2 ∨ t = 3 := by omega
      rcases this with e | e | e | e <;> subst e <;> rfl
    · rw [List.getElem?_take_eq_none (by omega), List.getElem?_eq_none (by show 4 ≤ t; omega)]
  rw [hcs]
  exact k36_mkM W base ok p
set_option maxRecDepth 100000 in
/-- slices.SortFunc over fires of the call's own: they are sorted where they lie. -/
theorem sort_calls {W : World} {base : Nat} {v : Value} {xs : List S36} (HO : Kd.R k36 36 W base (fun _ => True) v xs) (hbase : base ≤ W.heap.size) (hlen : xs.length < 4611686018427387904) :
    Calls Try.prog 20 #[v, .func (.func 21) #[] #[]] W fun e w' => e = .returned (.tuple #[]) ∧ Kd.R k36 36 w' base (fun _ => True) v (sortE xs) ∧ Below base W w' := by
  obtain ⟨h0, inner, ho, hr⟩ := HO
  obtain ⟨hin, ⟨rfl, hn⟩ | ⟨g, cap, cur, rfl, hg, hh, hcap, hmax, hsz, htake⟩⟩ := ho
  · have hx : xs = [] := List.eq_nil_of_length_eq_zero hn
    subst hx
    refine (AnyF.slices_SortFunc_none (P := Try.prog) (ρ := Try.sortFire_ren) Try.sortFire none 0 (.func (.func 21) #[] #[]) W).mono fun e w' ⟨he, hw⟩ => ⟨he, ?_, ?_⟩
    · exact Kd.R_nil _ _ _ _ _
    · rw [hw]; exact Below.refl _ _
  · have hflat := reps_flat hr
    have hgl : g < W.heap.size := by
      rcases Nat.lt_or_ge g W.heap.size with h | h
      · exact h
      · rw [Array.getElem?_eq_none h] at hh; simp at hh
    have hH : Go.Sort.HoldsK encF 4 W g 0 xs.toArray := by
      intro j hj
      rw [Go.Sort.size_flatK] at hj
      have hj' : j < xs.length * 4 := by simpa using hj
      have hjc : j < cur.size := by rw [hsz]; have := Nat.mul_le_mul_right 4 hcap; exact Nat.lt_of_lt_of_le hj' this
      refine ⟨?_, ?_⟩
      · have h1 : W.cell? ⟨g, 0 + j, none⟩ = cur[j]? := by
          unfold World.cell?
          rw [hh]
          simp
        have h2 : cur[j]? = (cur.toList.take (xs.length * 4))[j]? := by rw [List.getElem?_take_of_lt hj', Array.getElem?_toList]
        have h3 : j < (Go.Sort.flatK encF 4 xs.toArray).size := by rw [Go.Sort.size_flatK]; exact hj
        have h4 : (cur.toList.take (xs.length * 4)) = (Go.Sort.flatK encF 4 xs.toArray).toList := by rw [← hflat]; exact htake
        rw [h1, h2, h4, Array.getElem?_toList, Array.getElem?_eq_getElem h3, getElem!_pos (Go.Sort.flatK encF 4 xs.toArray) _ h3]
        rfl
      · exact (blk_frozen hh (0 + j))
    have hne : xs ≠ [] ∨ xs = [] := by by_cases h : xs = [] <;> simp [h]
    have hcon := AnyQ.slices_SortFunc_eq (P := Try.prog) (ρ := Try.sortFire_ren) Try.sortFire 4 Try.isAgg36 Try.sizeOf36 encF (fun _ => rfl) (fun x v hv => by simp [encF] at hv; rcases hv with rfl | rfl | rfl | rfl <;> rfl) cfE swoE 21 #[] g 0 cap xs.toArray W
      (enters_of Try.func21 (by kernel_rfl) rfl) (cmpLaysE g 0 xs.toArray.size W) hH hgl (by simpa using hlen)
    change Calls Try.prog 20 #[.slice (some ⟨g, 0, none⟩) xs.toArray.size cap, .func (.func 21) #[] #[]] W _ at hcon
    rw [show xs.toArray.size = xs.length from by simp] at hcon
    refine hcon.mono fun e w' ⟨he, n, os, hw⟩ => ⟨he, ?_⟩
    have hd : ∃ d' : Array S36, d' = Go.Sort.pdq (ltOf cfE) xs.toArray 0 xs.length (Lib.bitLen xs.length) true true ∧ d'.toList = sortE xs := by
      refine ⟨_, rfl, ?_⟩
      unfold sortE
      by_cases hx : xs = []
      · rw [if_pos hx]
        subst hx
        have h1 := (Go.Sort.pdq_sorts (ltOf cfE) swoE #[] 0 0 (Lib.bitLen 0) true true (Nat.zero_le _) (Nat.le_refl _) (Or.inl rfl)).1.1
        exact List.eq_nil_of_length_eq_zero (by simpa using h1)
      · rw [if_neg hx]; simp
    obtain ⟨d', hd1, hd2⟩ := hd
    rw [← hd1] at hw
    have hdl : d'.toList.length = xs.length := by rw [hd2, sortE_length]
    have hds : d'.size = xs.length := by simpa using hdl
    have hw2 : w'.heap[g]? = some (.cells (Go.Sort.putCells id 0 (Go.Sort.flatK encF 4 d') cur) 36 (0, 0)) := by
      rw [hw]
      unfold sortWorldK Go.Sort.putRowK Go.Sort.putRow
      rw [Go.Sort.heap_grow_old _ _ (by simpa [Go.Sort.mapBlock] using hgl)]
      show ((Go.Sort.ahead W n).heap.modify g _)[g]? = _
      rw [Go.Sort.heap_ahead, Array.getElem?_modify, if_pos rfl, hh]
      rfl
    have hbel : Below base W w' := by
      rw [hw]
      unfold sortWorldK Go.Sort.putRowK Go.Sort.putRow
      refine ⟨rfl, rfl, rfl, by simp [Go.Sort.mapBlock], fun k hk => ?_⟩
      rw [Go.Sort.heap_grow_old _ _ (by simp [Go.Sort.mapBlock]; omega)]
      show ((Go.Sort.ahead W n).heap.modify g _)[k]? = _
      rw [Go.Sort.heap_ahead, Array.getElem?_modify, if_neg (by omega)]
    refine ⟨⟨fun _ _ => trivial, (Go.Sort.flatK encF 4 (sortE xs).toArray).toList, ⟨by simp [k36, Kd.iso, Kd.pair, Kd.int, Kd.scalar], .inr ⟨g, cap, Go.Sort.putCells id 0 (Go.Sort.flatK encF 4 d') cur, by rw [sortE_length], hg, hw2, by rw [sortE_length]; exact hcap, hmax, ?_, ?_⟩⟩, flat_reps _ _ _ _⟩, hbel⟩
    · unfold Go.Sort.putCells; rw [Array.size_mapIdx]; exact hsz
    · rw [← hd2]
      have hsz4 : k36.sz = 4 := rfl
      rw [hsz4, hdl, show d'.toList.toArray = d' by simp]
      apply List.ext_getElem?
      intro t
      by_cases ht : t < xs.length * 4
      · have htc : t < cur.size := by rw [hsz]; have := Nat.mul_le_mul_right 4 hcap; exact Nat.lt_of_lt_of_le ht this
        have h3 : t < (Go.Sort.flatK encF 4 d').size := by rw [Go.Sort.size_flatK, hds]; exact ht
        rw [List.getElem?_take_of_lt ht, Array.getElem?_toList, Array.getElem?_toList]
        unfold Go.Sort.putCells
        rw [Array.getElem?_mapIdx, Array.getElem?_eq_getElem htc, Option.map_some, if_pos ⟨Nat.zero_le _, by omega⟩, Nat.sub_zero, getElem!_pos (Go.Sort.flatK encF 4 d') _ h3, Array.getElem?_eq_getElem h3]
        rfl
      · rw [List.getElem?_take_eq_none (by omega), List.getElem?_eq_none (by simp [hds]; omega)]
mutual
def expand_From.l0 : Nat → List (S42) → Int → Int → List (S36) → List (S42) → Int → Int → Option ((List (S36)))
  | 0, _, _, _, _, _, _, _ => none
  | k + 1, x0, x1, x2, x6, x19, x20, x21 => if x21 < x20 then (if 0 ≤ x21 then (if x21 < (x19.length : Int) then ((expand_lasting_first.f ((rd_T42 x19 x21).f0) ((rd_T42 x19 x21).f1) ((rd_T42 x19 x21).f2) ((rd_T42 x19 x21).f3) ((rd_T42 x19 x21).f4.f0) ((rd_T42 x19 x21).f4.f1) ((rd_T42 x19 x21).f4.f2) ((rd_T42 x19 x21).f5.f0) ((rd_T42 x19 x21).f5.f1) ((rd_T42 x19 x21).f6) ((rd_T42 x19 x21).f7)).bind fun t163 => (expand_From.l1 k x0 x1 x2 x6 x21 (mx x1 t163) x19 x20 x21 ((rd_T42 x19 x21).f0) ((rd_T42 x19 x21).f1) ((rd_T42 x19 x21).f2) ((rd_T42 x19 x21).f3) ((rd_T42 x19 x21).f4.f0) ((rd_T42 x19 x21).f4.f1) ((rd_T42 x19 x21).f4.f2) ((rd_T42 x19 x21).f5.f0) ((rd_T42 x19 x21).f5.f1) ((rd_T42 x19 x21).f6) ((rd_T42 x19 x21).f7))) else (none)) else (none)) else (if x6.length < 4398046511104 then ((expand_saved.f k x0 x1).bind fun t174 => (expand_From.l2 k x0 (sortE x6) t174 ((sortE x6).length : Int) 0)) else (none))
def expand_From.l1 : Nat → List (S42) → Int → Int → List (S36) → Int → Int → List (S42) → Int → Int → ByteArray → Int → Int → Int → Int → Int → Int → Int → Int → Int → ByteArray → Option ((List (S36)))
  | 0, _, _, _, _, _, _, _, _, _, _, _, _, _, _, _, _, _, _, _, _ => none
  | k + 1, x0, x1, x2, x6, x7, x10, x19, x20, x21, x163000, x163001, x163002, x163003, x163004, x163005, x163006, x163007, x163008, x163009, x163010 => (expand_lasting_last.f x163000 x163001 x163002 x163003 x163004 x163005 x163006 x163007 x163008 x163009 x163010).bind fun t164 => (if x10 ≤ (mn x2 t164) then ((expand_lasting_fire.f k x163000 x163001 x163002 x163003 x163004 x163005 x163006 x163007 x163008 x163009 x163010 x7 x10).bind fun bt165 => (if bt165.2.2.2.2 = true then (if x6.length < 4398046511104 then (expand_From.l1 k x0 x1 x2 (x6 ++ [(⟨bt165.1, bt165.2.1, bt165.2.2.1, bt165.2.2.2.1⟩ : S36)]) x7 (wrap64 (x10 + 1)) x19 x20 x21 x163000 x163001 x163002 x163003 x163004 x163005 x163006 x163007 x163008 x163009 x163010) else (none)) else (expand_From.l1 k x0 x1 x2 x6 x7 (wrap64 (x10 + 1)) x19 x20 x21 x163000 x163001 x163002 x163003 x163004 x163005 x163006 x163007 x163008 x163009 x163010))) else (expand_From.l0 k x0 x1 x2 x6 x19 x20 (wrap64 (x21 + 1))))
def expand_From.l2 : Nat → List (S42) → List (S36) → Int → Int → Int → Option ((List (S36)))
  | 0, _, _, _, _, _ => none
  | k + 1, x0, x6, x13, x58, x59 => if x59 < x58 then (if 0 ≤ x59 then (if x59 < (x6.length : Int) then (if 0 ≤ ((rd_T36 x6 x59).f0) then (if ((rd_T36 x6 x59).f0) < (x0.length : Int) then (expand_From.l2 k x0 (x6.set (x59 : Int).toNat (⟨(rd_T36 x6 x59).f0, (rd_T36 x6 x59).f1, (rd_T36 x6 x59).f2, x13⟩ : S36)) ((rd_T42 x0 ((rd_T36 x6 x59).f0)).f6) x58 (wrap64 (x59 + 1))) else (none)) else (none)) else (none)) else (none)) else (some x6)
end
def expand_From.f (k : Nat) (l0 : List (S42)) (a1 : Int) (a2 : Int) : Option ((List (S36))) := expand_From.l0 k l0 (mx a1 1) (mn a2 9999) ([] : List (S36)) l0 (l0.length : Int) 0
theorem expand_From.mono_l : ∀ k, (∀ y0 y1 y2 y3 y4 y5 y6, LeO (expand_From.l0 k y0 y1 y2 y3 y4 y5 y6) (expand_From.l0 (k + 1) y0 y1 y2 y3 y4 y5 y6)) ∧ (∀ y0 y1 y2 y3 y4 y5 y6 y7 y8 y9 y10 y11 y12 y13 y14 y15 y16 y17 y18 y19, LeO (expand_From.l1 k y0 y1 y2 y3 y4 y5 y6 y7 y8 y9 y10 y11 y12 y13 y14 y15 y16 y17 y18 y19) (expand_From.l1 (k + 1) y0 y1 y2 y3 y4 y5 y6 y7 y8 y9 y10 y11 y12 y13 y14 y15 y16 y17 y18 y19)) ∧ (∀ y0 y1 y2 y3 y4, LeO (expand_From.l2 k y0 y1 y2 y3 y4) (expand_From.l2 (k + 1) y0 y1 y2 y3 y4))
  | 0 => ⟨fun _ _ _ _ _ _ _ r h => by simp [expand_From.l0] at h, fun _ _ _ _ _ _ _ _ _ _ _ _ _ _ _ _ _ _ _ _ r h => by simp [expand_From.l1] at h, fun _ _ _ _ _ r h => by simp [expand_From.l2] at h⟩
  | k + 1 => by
    obtain ⟨ih0, ih1, ih2⟩ := expand_From.mono_l k
    refine ⟨?_, ?_, ?_⟩
    · intro y0 y1 y2 y3 y4 y5 y6
      unfold expand_From.l0
      repeat' first
      | (with_reducible exact ih0 _ _ _ _ _ _ _)
      | (with_reducible exact ih1 _ _ _ _ _ _ _ _ _ _ _ _ _ _ _ _ _ _ _ _)
      | (with_reducible exact ih2 _ _ _ _ _)
      | (with_reducible exact expand_lasting_fire.mono _ _ _ _ _ _ _ _ _ _ _ _ _ _)
      | (with_reducible exact expand_saved.mono _ _ _)
      | (with_reducible exact LeO.refl _)
      | (with_reducible exact LeO.none _)
      | (with_reducible refine LeO.ite ?_ ?_)
      | (with_reducible refine LeO.bind ?_ (fun _ => ?_))
      | exact ih0 _ _ _ _ _ _ _
      | exact ih1 _ _ _ _ _ _ _ _ _ _ _ _ _ _ _ _ _ _ _ _
      | exact ih2 _ _ _ _ _
      | exact expand_lasting_fire.mono _ _ _ _ _ _ _ _ _ _ _ _ _ _
      | exact expand_saved.mono _ _ _
      | exact LeO.none _
      | refine LeO.ite ?_ ?_
      | refine LeO.bind ?_ (fun _ => ?_)
    · intro y0 y1 y2 y3 y4 y5 y6 y7 y8 y9 y10 y11 y12 y13 y14 y15 y16 y17 y18 y19
      unfold expand_From.l1
      repeat' first
      | (with_reducible exact ih0 _ _ _ _ _ _ _)
      | (with_reducible exact ih1 _ _ _ _ _ _ _ _ _ _ _ _ _ _ _ _ _ _ _ _)
      | (with_reducible exact ih2 _ _ _ _ _)
      | (with_reducible exact expand_lasting_fire.mono _ _ _ _ _ _ _ _ _ _ _ _ _ _)
      | (with_reducible exact expand_saved.mono _ _ _)
      | (with_reducible exact LeO.refl _)
      | (with_reducible exact LeO.none _)
      | (with_reducible refine LeO.ite ?_ ?_)
      | (with_reducible refine LeO.bind ?_ (fun _ => ?_))
      | exact ih0 _ _ _ _ _ _ _
      | exact ih1 _ _ _ _ _ _ _ _ _ _ _ _ _ _ _ _ _ _ _ _
      | exact ih2 _ _ _ _ _
      | exact expand_lasting_fire.mono _ _ _ _ _ _ _ _ _ _ _ _ _ _
      | exact expand_saved.mono _ _ _
      | exact LeO.none _
      | refine LeO.ite ?_ ?_
      | refine LeO.bind ?_ (fun _ => ?_)
    · intro y0 y1 y2 y3 y4
      unfold expand_From.l2
      repeat' first
      | (with_reducible exact ih0 _ _ _ _ _ _ _)
      | (with_reducible exact ih1 _ _ _ _ _ _ _ _ _ _ _ _ _ _ _ _ _ _ _ _)
      | (with_reducible exact ih2 _ _ _ _ _)
      | (with_reducible exact expand_lasting_fire.mono _ _ _ _ _ _ _ _ _ _ _ _ _ _)
      | (with_reducible exact expand_saved.mono _ _ _)
      | (with_reducible exact LeO.refl _)
      | (with_reducible exact LeO.none _)
      | (with_reducible refine LeO.ite ?_ ?_)
      | (with_reducible refine LeO.bind ?_ (fun _ => ?_))
      | exact ih0 _ _ _ _ _ _ _
      | exact ih1 _ _ _ _ _ _ _ _ _ _ _ _ _ _ _ _ _ _ _ _
      | exact ih2 _ _ _ _ _
      | exact expand_lasting_fire.mono _ _ _ _ _ _ _ _ _ _ _ _ _ _
      | exact expand_saved.mono _ _ _
      | exact LeO.none _
      | refine LeO.ite ?_ ?_
      | refine LeO.bind ?_ (fun _ => ?_)
theorem expand_From.mono : ∀ a0 a1 a2 k, LeO (expand_From.f k a0 a1 a2) (expand_From.f (k + 1) a0 a1 a2) := by
  intro a0 a1 a2 k
  obtain ⟨ih0, ih1, ih2⟩ := expand_From.mono_l k
  unfold expand_From.f
  repeat' first
      | (with_reducible exact ih0 _ _ _ _ _ _ _)
      | (with_reducible exact ih1 _ _ _ _ _ _ _ _ _ _ _ _ _ _ _ _ _ _ _ _)
      | (with_reducible exact ih2 _ _ _ _ _)
      | (with_reducible exact expand_lasting_fire.mono _ _ _ _ _ _ _ _ _ _ _ _ _ _)
      | (with_reducible exact expand_saved.mono _ _ _)
      | (with_reducible exact LeO.refl _)
      | (with_reducible exact LeO.none _)
      | (with_reducible refine LeO.ite ?_ ?_)
      | (with_reducible refine LeO.bind ?_ (fun _ => ?_))
      | exact ih0 _ _ _ _ _ _ _
      | exact ih1 _ _ _ _ _ _ _ _ _ _ _ _ _ _ _ _ _ _ _ _
      | exact ih2 _ _ _ _ _
      | exact expand_lasting_fire.mono _ _ _ _ _ _ _ _ _ _ _ _ _ _
      | exact expand_saved.mono _ _ _
      | exact LeO.none _
      | refine LeO.ite ?_ ?_
      | refine LeO.bind ?_ (fun _ => ?_)
set_option maxHeartbeats 8000000 in
set_option maxRecDepth 100000 in
theorem expand_From.calls (k : Nat) (A0 : Option Addr) (c0 : Nat) (l0 : List (S42)) (a1 : Int) (a2 : Int) (r : List (S36)) (w : World) (hr0 : Kd.C k42 w A0 l0.length l0) (hc0 : l0.length ≤ c0) (h : expand_From.f k l0 a1 a2 = some r) :
    Calls Try.prog 11 #[.slice A0 l0.length c0, .int .i64 a1, .int .i64 a2] w fun e w' => ∃ v0_ : Value, e = .returned (v0_) ∧ Kd.R k36 36 w' w.heap.size (fun _ => True) v0_ r ∧ Below w.heap.size w w' := by
  have hu42 := Try.underlying42
  have hu48 := Try.underlying48
  have hu36 := Try.underlying36
  have HR0 := Aside0.mk hr0
  have HC0 := Aside0.mk hc0
  clear hr0 hc0
  have HB := Aside0.mk (Below.refl w.heap.size w)
  have H : (expand_From.l0 k l0 (mx a1 1) (mn a2 9999) ([] : List (S36)) l0 (l0.length : Int) 0) = some r := h
  clear h
  obtain ⟨ji4, hji4⟩ : ∃ j_ : Int, (mx a1 1) = j_ := ⟨_, rfl⟩
  replace H : (expand_From.l0 k l0 ji4 (mn a2 9999) ([] : List (S36)) l0 (l0.length : Int) 0) = some r := by first | (rw [hji4] at H; exact H) | (simp only [hji4] at H ⊢; exact H)
  (try (have hji4l : 1 ≤ ji4 := by (rw [← hji4]; unfold mx; (repeat' split) <;> omega)))
  (try (have hji4m : 0 ≤ ji4 := by omega))
  have hji4_ : (if a1 < 1 then 1 else a1) = ji4 := hji4
  obtain ⟨ji5, hji5⟩ : ∃ j_ : Int, (mn a2 9999) = j_ := ⟨_, rfl⟩
  replace H : (expand_From.l0 k l0 ji4 ji5 ([] : List (S36)) l0 (l0.length : Int) 0) = some r := by first | (rw [hji5] at H; exact H) | (simp only [hji5] at H ⊢; exact H)
  (try (have hji5h : ji5 ≤ 9999 := by (rw [← hji5]; unfold mn; (repeat' split) <;> omega)))
  (try (have hji5g : ji5 ≤ 64 := by omega))
  have hji5_ : (if 9999 < a2 then 9999 else a2) = ji5 := hji5
  have H' := Aside0.mk H
  clear H
  go_enter Try.func11, Try.ntmps11
  go_wp2
  go_loopg [6, 21] k (fun kq v6 v21 w' => ∃ (x6_1 : List (S36)) (x21_1 : Int), v21 = .int .i64 x21_1 ∧ Aside0 (expand_From.l0 kq l0 ji4 ji5 x6_1 l0 (l0.length : Int) x21_1 = some r) ∧ Aside0 (kq ≤ k) ∧ Aside0 (Kd.R k36 36 w' w.heap.size (fun _ => True) v6 x6_1) ∧ Aside0 (Below w.heap.size w w'))
  case atStart => exact ⟨(([] : List (S36))), (0), (by first | rfl | (simp; done) | (simp [*]; done)), H', ⟨Nat.le_refl _⟩, ⟨by first | exact Kd.R_nil _ _ _ _ _ | exact Kd.N_nil _ _ _ _ _ | exact Kd.V_nil _ _ _ _ _ | exact Kd.Q_nil _ _ _ _ _ | exact Kd.S_nil _ _ _ _ _⟩, ⟨by repeat (first | (with_reducible first | exact HB.out | apply below_alloc | apply pw_below_drewN | apply below_drew1) | exact HB.out)⟩⟩
  case round =>
    clear H'
    try clear c1
    try clear p2
    obtain ⟨x6_1, x21_1, rfl, HA, HK1, HO_6, HB⟩ := hrel
    cases gk with
    | zero => exact absurd HA.out (by simp [expand_From.l0])
    | succ k1 =>
      have H := HA.out
      clear HA
      simp only [expand_From.l0] at H
      by_cases c6 : x21_1 < (l0.length : Int)
      · rw [if_pos c6] at H
        have c6b0 : decide (x21_1 < (l0.length : Int)) = true := decide_eq_true c6
        clear c6
        by_cases c7 : 0 ≤ x21_1
        · rw [if_pos c7] at H
          have c7b0 : decide (0 ≤ x21_1) = true := decide_eq_true c7
          clear c7
          by_cases c8 : x21_1 < (l0.length : Int)
          · rw [if_pos c8] at H
            have c8b0 : decide (x21_1 < (l0.length : Int)) = true := decide_eq_true c8
            clear c8
            replace H := Option.bind_eq_some_iff.mp H
            obtain ⟨t163, A90, H⟩ := H
            replace H : (expand_From.l1 k1 l0 ji4 ji5 x6_1 x21_1 (mx ji4 t163) l0 (l0.length : Int) x21_1 ((rd_T42 l0 x21_1).f0) ((rd_T42 l0 x21_1).f1) ((rd_T42 l0 x21_1).f2) ((rd_T42 l0 x21_1).f3) ((rd_T42 l0 x21_1).f4.f0) ((rd_T42 l0 x21_1).f4.f1) ((rd_T42 l0 x21_1).f4.f2) ((rd_T42 l0 x21_1).f5.f0) ((rd_T42 l0 x21_1).f5.f1) ((rd_T42 l0 x21_1).f6) ((rd_T42 l0 x21_1).f7)) = some r := H
            have A9 := Aside0.mk A90
            clear A90
            obtain ⟨ji10, hji10⟩ : ∃ j_ : Int, (mx ji4 t163) = j_ := ⟨_, rfl⟩
            replace H : (expand_From.l1 k1 l0 ji4 ji5 x6_1 x21_1 ji10 l0 (l0.length : Int) x21_1 ((rd_T42 l0 x21_1).f0) ((rd_T42 l0 x21_1).f1) ((rd_T42 l0 x21_1).f2) ((rd_T42 l0 x21_1).f3) ((rd_T42 l0 x21_1).f4.f0) ((rd_T42 l0 x21_1).f4.f1) ((rd_T42 l0 x21_1).f4.f2) ((rd_T42 l0 x21_1).f5.f0) ((rd_T42 l0 x21_1).f5.f1) ((rd_T42 l0 x21_1).f6) ((rd_T42 l0 x21_1).f7)) = some r := by first | (rw [hji10] at H; exact H) | (simp only [hji10] at H ⊢; exact H)
            (try rw [hji10] at A9)
            have hji10_ : (if ji4 < t163 then t163 else ji4) = ji10 := hji10
            have H' := Aside0.mk H
            clear H
            have p160 : 0 ≤ (x21_1 : Int) := of_decide_eq_true (by first | (with_reducible assumption) | assumption)
            have q160 : x21_1 < (l0.length : Int) := of_decide_eq_true (by first | (with_reducible assumption) | assumption)
            obtain ⟨ad160, e160, hx160_0, hx160_1, hx160_2, hx160_3, hx160_4, hx160_5, hx160_6, hx160_7, hx160_8, hx160_9, hx160_10⟩ := at_T42 HR0.out x21_1 p160 q160
            cases e160
            replace hx160_0 := (HB.out.cell (World.block_lt_of_cell? w _ hx160_0)).trans hx160_0
            replace hx160_1 := (HB.out.cell (World.block_lt_of_cell? w _ hx160_1)).trans hx160_1
            replace hx160_2 := (HB.out.cell (World.block_lt_of_cell? w _ hx160_2)).trans hx160_2
            replace hx160_3 := (HB.out.cell (World.block_lt_of_cell? w _ hx160_3)).trans hx160_3
            replace hx160_4 := (HB.out.cell (World.block_lt_of_cell? w _ hx160_4)).trans hx160_4
            replace hx160_5 := (HB.out.cell (World.block_lt_of_cell? w _ hx160_5)).trans hx160_5
            replace hx160_6 := (HB.out.cell (World.block_lt_of_cell? w _ hx160_6)).trans hx160_6
            replace hx160_7 := (HB.out.cell (World.block_lt_of_cell? w _ hx160_7)).trans hx160_7
            replace hx160_8 := (HB.out.cell (World.block_lt_of_cell? w _ hx160_8)).trans hx160_8
            replace hx160_9 := (HB.out.cell (World.block_lt_of_cell? w _ hx160_9)).trans hx160_9
            replace hx160_10 := (HB.out.cell (World.block_lt_of_cell? w _ hx160_10)).trans hx160_10
            replace p160 := eq_true p160
            replace q160 := eq_true q160
            go_wp2_with (first | ((with_reducible refine gate_dst (N := 8) rfl ?_); refine box_event ?hg (N := 8) ?hd (cs := #[.string (⟨#[]⟩ : ByteArray), .int .i64 0, .int .i64 0, .int .i64 0, .int .i64 0, .int .i64 0, .int .i64 0, .int .i64 0, .int .i64 0, .int .i64 0, .string (⟨#[]⟩ : ByteArray)]) (t := 42) ?hr ?_; (case hd => rfl); (case hg => rfl); (case hr => first | (go_simp; done) | (go_simp; rfl)); intro gb161 hg w11 hbox hb; have n0_ := Aside0.mk (Kd.R_below (by (with_reducible repeat (first | apply Kd.R_alloc | apply Kd.R_drewN | apply Kd.R_drew)); exact HO_6.out) hb); have n1_ := Aside0.mk (below_step (by repeat (first | (with_reducible first | exact HB.out | apply below_alloc | apply pw_below_drewN | apply below_drew1) | exact HB.out)) hb); have n2_ := Aside0.mk (hbox); have n3_ := Aside0.mk ((by rw [hg]; exact (below_size (by repeat (first | (with_reducible first | exact HB.out | apply below_alloc | apply pw_below_drewN | apply below_drew1) | exact HB.out))) : w.heap.size ≤ gb161)); have n4_ := Aside0.mk ((by rw [hg]; exact (below_size (by repeat (first | (with_reducible first | exact HB.out | apply below_alloc | apply pw_below_drewN | apply below_drew1) | exact HB.out))) : w.heap.size ≤ gb161)); clear HO_6; clear HB; have HO_6 := n0_; have HB := n1_; have BK161 := n2_; have GW161 := n3_; have GE161 := n4_; clear n0_ n1_ n2_ n3_ n4_; clear hb hbox hg; have hcz12_0 : w11.cell? ⟨gb161, 0, none⟩ = some (.string (⟨#[]⟩ : ByteArray)) := (blk_cell BK161.out 0).trans rfl; have hcz12_1 : w11.cell? ⟨gb161, 1, none⟩ = some (.int .i64 0) := (blk_cell BK161.out 1).trans rfl; have hcz12_2 : w11.cell? ⟨gb161, 2, none⟩ = some (.int .i64 0) := (blk_cell BK161.out 2).trans rfl; have hcz12_3 : w11.cell? ⟨gb161, 3, none⟩ = some (.int .i64 0) := (blk_cell BK161.out 3).trans rfl; have hcz12_4 : w11.cell? ⟨gb161, 4, none⟩ = some (.int .i64 0) := (blk_cell BK161.out 4).trans rfl; have hcz12_5 : w11.cell? ⟨gb161, 5, none⟩ = some (.int .i64 0) := (blk_cell BK161.out 5).trans rfl; have hcz12_6 : w11.cell? ⟨gb161, 6, none⟩ = some (.int .i64 0) := (blk_cell BK161.out 6).trans rfl; have hcz12_7 : w11.cell? ⟨gb161, 7, none⟩ = some (.int .i64 0) := (blk_cell BK161.out 7).trans rfl; have hcz12_8 : w11.cell? ⟨gb161, 8, none⟩ = some (.int .i64 0) := (blk_cell BK161.out 8).trans rfl; have hcz12_9 : w11.cell? ⟨gb161, 9, none⟩ = some (.int .i64 0) := (blk_cell BK161.out 9).trans rfl; have hcz12_10 : w11.cell? ⟨gb161, 10, none⟩ = some (.string (⟨#[]⟩ : ByteArray)) := (blk_cell BK161.out 10).trans rfl; have hfz12_0 := blk_frozen BK161.out 0; have hfz12_1 := blk_frozen BK161.out 1; have hfz12_2 := blk_frozen BK161.out 2; have hfz12_3 := blk_frozen BK161.out 3; have hfz12_4 := blk_frozen BK161.out 4; have hfz12_5 := blk_frozen BK161.out 5; have hfz12_6 := blk_frozen BK161.out 6; have hfz12_7 := blk_frozen BK161.out 7; have hfz12_8 := blk_frozen BK161.out 8; have hfz12_9 := blk_frozen BK161.out 9; have hfz12_10 := blk_frozen BK161.out 10) | ((with_reducible refine gate_dst (N := 9) rfl ?_); refine box_event ?hg (N := 9) ?hd (cs := #[.string (⟨#[]⟩ : ByteArray), .int .i64 0, .int .i64 0, .int .i64 0, .int .i64 0, .int .i64 0, .int .i64 0, .int .i64 0, .int .i64 0, .int .i64 0, .string (⟨#[]⟩ : ByteArray)]) (t := 48) ?hr ?_; (case hd => rfl); (case hg => rfl); (case hr => first | (go_simp; done) | (go_simp; rfl)); intro gb162 hg w13 hbox hb; have n0_ := Aside0.mk (Kd.R_below (by (with_reducible repeat (first | apply Kd.R_alloc | apply Kd.R_drewN | apply Kd.R_drew)); exact (Kd.R_mono (Kd.R_far (p := ⟨gb161, 10, none⟩) (Kd.R_far (p := ⟨gb161, 9, none⟩) (Kd.R_far (p := ⟨gb161, 8, none⟩) (Kd.R_far (p := ⟨gb161, 7, none⟩) (Kd.R_far (p := ⟨gb161, 6, none⟩) (Kd.R_far (p := ⟨gb161, 5, none⟩) (Kd.R_far (p := ⟨gb161, 4, none⟩) (Kd.R_far (p := ⟨gb161, 3, none⟩) (Kd.R_far (p := ⟨gb161, 2, none⟩) (Kd.R_far (p := ⟨gb161, 1, none⟩) (Kd.R_far (p := ⟨gb161, 0, none⟩) (Kd.R_types HO_6.out BK161.out (by decide)) (fun _ hk => hk.2) (.string ((rd_T42 l0 x21_1).f0))) (fun _ hk => hk.2) (.int .i64 ((rd_T42 l0 x21_1).f1))) (fun _ hk => hk.2) (.int .i64 ((rd_T42 l0 x21_1).f2))) (fun _ hk => hk.2) (.int .i64 ((rd_T42 l0 x21_1).f3))) (fun _ hk => hk.2) (.int .i64 ((rd_T42 l0 x21_1).f4.f0))) (fun _ hk => hk.2) (.int .i64 ((rd_T42 l0 x21_1).f4.f1))) (fun _ hk => hk.2) (.int .i64 ((rd_T42 l0 x21_1).f4.f2))) (fun _ hk => hk.2) (.int .i64 ((rd_T42 l0 x21_1).f5.f0))) (fun _ hk => hk.2) (.int .i64 ((rd_T42 l0 x21_1).f5.f1))) (fun _ hk => hk.2) (.int .i64 ((rd_T42 l0 x21_1).f6))) (fun _ hk => hk.2) (.string ((rd_T42 l0 x21_1).f7))) (fun _ h_ => h_.1))) hb); have n1_ := Aside0.mk (blk_below (g := gb161) (o := .cells #[.string ((rd_T42 l0 x21_1).f0), .int .i64 ((rd_T42 l0 x21_1).f1), .int .i64 ((rd_T42 l0 x21_1).f2), .int .i64 ((rd_T42 l0 x21_1).f3), .int .i64 ((rd_T42 l0 x21_1).f4.f0), .int .i64 ((rd_T42 l0 x21_1).f4.f1), .int .i64 ((rd_T42 l0 x21_1).f4.f2), .int .i64 ((rd_T42 l0 x21_1).f5.f0), .int .i64 ((rd_T42 l0 x21_1).f5.f1), .int .i64 ((rd_T42 l0 x21_1).f6), .string ((rd_T42 l0 x21_1).f7)] 42 (0, 0)) (by (with_reducible repeat (first | refine blk_drewN ?_ _ | refine blk_drew ?_ | refine blk_alloc ?_ _)); refine blk_put (cs := #[.string ((rd_T42 l0 x21_1).f0), .int .i64 ((rd_T42 l0 x21_1).f1), .int .i64 ((rd_T42 l0 x21_1).f2), .int .i64 ((rd_T42 l0 x21_1).f3), .int .i64 ((rd_T42 l0 x21_1).f4.f0), .int .i64 ((rd_T42 l0 x21_1).f4.f1), .int .i64 ((rd_T42 l0 x21_1).f4.f2), .int .i64 ((rd_T42 l0 x21_1).f5.f0), .int .i64 ((rd_T42 l0 x21_1).f5.f1), .int .i64 ((rd_T42 l0 x21_1).f6), .string (⟨#[]⟩ : ByteArray)]) ?_ 10 _ rfl; (with_reducible repeat (first | refine blk_drewN ?_ _ | refine blk_drew ?_ | refine blk_alloc ?_ _)); refine blk_put (cs := #[.string ((rd_T42 l0 x21_1).f0), .int .i64 ((rd_T42 l0 x21_1).f1), .int .i64 ((rd_T42 l0 x21_1).f2), .int .i64 ((rd_T42 l0 x21_1).f3), .int .i64 ((rd_T42 l0 x21_1).f4.f0), .int .i64 ((rd_T42 l0 x21_1).f4.f1), .int .i64 ((rd_T42 l0 x21_1).f4.f2), .int .i64 ((rd_T42 l0 x21_1).f5.f0), .int .i64 ((rd_T42 l0 x21_1).f5.f1), .int .i64 0, .string (⟨#[]⟩ : ByteArray)]) ?_ 9 _ rfl; (with_reducible repeat (first | refine blk_drewN ?_ _ | refine blk_drew ?_ | refine blk_alloc ?_ _)); refine blk_put (cs := #[.string ((rd_T42 l0 x21_1).f0), .int .i64 ((rd_T42 l0 x21_1).f1), .int .i64 ((rd_T42 l0 x21_1).f2), .int .i64 ((rd_T42 l0 x21_1).f3), .int .i64 ((rd_T42 l0 x21_1).f4.f0), .int .i64 ((rd_T42 l0 x21_1).f4.f1), .int .i64 ((rd_T42 l0 x21_1).f4.f2), .int .i64 ((rd_T42 l0 x21_1).f5.f0), .int .i64 0, .int .i64 0, .string (⟨#[]⟩ : ByteArray)]) ?_ 8 _ rfl; (with_reducible repeat (first | refine blk_drewN ?_ _ | refine blk_drew ?_ | refine blk_alloc ?_ _)); refine blk_put (cs := #[.string ((rd_T42 l0 x21_1).f0), .int .i64 ((rd_T42 l0 x21_1).f1), .int .i64 ((rd_T42 l0 x21_1).f2), .int .i64 ((rd_T42 l0 x21_1).f3), .int .i64 ((rd_T42 l0 x21_1).f4.f0), .int .i64 ((rd_T42 l0 x21_1).f4.f1), .int .i64 ((rd_T42 l0 x21_1).f4.f2), .int .i64 0, .int .i64 0, .int .i64 0, .string (⟨#[]⟩ : ByteArray)]) ?_ 7 _ rfl; (with_reducible repeat (first | refine blk_drewN ?_ _ | refine blk_drew ?_ | refine blk_alloc ?_ _)); refine blk_put (cs := #[.string ((rd_T42 l0 x21_1).f0), .int .i64 ((rd_T42 l0 x21_1).f1), .int .i64 ((rd_T42 l0 x21_1).f2), .int .i64 ((rd_T42 l0 x21_1).f3), .int .i64 ((rd_T42 l0 x21_1).f4.f0), .int .i64 ((rd_T42 l0 x21_1).f4.f1), .int .i64 0, .int .i64 0, .int .i64 0, .int .i64 0, .string (⟨#[]⟩ : ByteArray)]) ?_ 6 _ rfl; (with_reducible repeat (first | refine blk_drewN ?_ _ | refine blk_drew ?_ | refine blk_alloc ?_ _)); refine blk_put (cs := #[.string ((rd_T42 l0 x21_1).f0), .int .i64 ((rd_T42 l0 x21_1).f1), .int .i64 ((rd_T42 l0 x21_1).f2), .int .i64 ((rd_T42 l0 x21_1).f3), .int .i64 ((rd_T42 l0 x21_1).f4.f0), .int .i64 0, .int .i64 0, .int .i64 0, .int .i64 0, .int .i64 0, .string (⟨#[]⟩ : ByteArray)]) ?_ 5 _ rfl; (with_reducible repeat (first | refine blk_drewN ?_ _ | refine blk_drew ?_ | refine blk_alloc ?_ _)); refine blk_put (cs := #[.string ((rd_T42 l0 x21_1).f0), .int .i64 ((rd_T42 l0 x21_1).f1), .int .i64 ((rd_T42 l0 x21_1).f2), .int .i64 ((rd_T42 l0 x21_1).f3), .int .i64 0, .int .i64 0, .int .i64 0, .int .i64 0, .int .i64 0, .int .i64 0, .string (⟨#[]⟩ : ByteArray)]) ?_ 4 _ rfl; (with_reducible repeat (first | refine blk_drewN ?_ _ | refine blk_drew ?_ | refine blk_alloc ?_ _)); refine blk_put (cs := #[.string ((rd_T42 l0 x21_1).f0), .int .i64 ((rd_T42 l0 x21_1).f1), .int .i64 ((rd_T42 l0 x21_1).f2), .int .i64 0, .int .i64 0, .int .i64 0, .int .i64 0, .int .i64 0, .int .i64 0, .int .i64 0, .string (⟨#[]⟩ : ByteArray)]) ?_ 3 _ rfl; (with_reducible repeat (first | refine blk_drewN ?_ _ | refine blk_drew ?_ | refine blk_alloc ?_ _)); refine blk_put (cs := #[.string ((rd_T42 l0 x21_1).f0), .int .i64 ((rd_T42 l0 x21_1).f1), .int .i64 0, .int .i64 0, .int .i64 0, .int .i64 0, .int .i64 0, .int .i64 0, .int .i64 0, .int .i64 0, .string (⟨#[]⟩ : ByteArray)]) ?_ 2 _ rfl; (with_reducible repeat (first | refine blk_drewN ?_ _ | refine blk_drew ?_ | refine blk_alloc ?_ _)); refine blk_put (cs := #[.string ((rd_T42 l0 x21_1).f0), .int .i64 0, .int .i64 0, .int .i64 0, .int .i64 0, .int .i64 0, .int .i64 0, .int .i64 0, .int .i64 0, .int .i64 0, .string (⟨#[]⟩ : ByteArray)]) ?_ 1 _ rfl; (with_reducible repeat (first | refine blk_drewN ?_ _ | refine blk_drew ?_ | refine blk_alloc ?_ _)); refine blk_put (cs := #[.string (⟨#[]⟩ : ByteArray), .int .i64 0, .int .i64 0, .int .i64 0, .int .i64 0, .int .i64 0, .int .i64 0, .int .i64 0, .int .i64 0, .int .i64 0, .string (⟨#[]⟩ : ByteArray)]) ?_ 0 _ rfl; (with_reducible repeat (first | refine blk_drewN ?_ _ | refine blk_drew ?_ | refine blk_alloc ?_ _)); exact BK161.out) hb); have n2_ := Aside0.mk (below_step (by repeat (first | (with_reducible first | exact HB.out | apply below_alloc | apply pw_below_drewN | apply below_drew1 | refine below_set ?_ GE161.out) | exact HB.out)) hb); have n3_ := Aside0.mk (hbox); have n4_ := Aside0.mk ((by rw [hg]; exact (below_size (by repeat (first | (with_reducible first | exact HB.out | apply below_alloc | apply pw_below_drewN | apply below_drew1 | refine below_set ?_ GE161.out) | exact HB.out))) : w.heap.size ≤ gb162)); have n5_ := Aside0.mk ((by rw [hg]; exact (below_size (by repeat (first | (with_reducible first | exact HB.out | apply below_alloc | apply pw_below_drewN | apply below_drew1 | refine below_set ?_ GE161.out) | exact HB.out))) : w.heap.size ≤ gb162)); have n6_ := Aside0.mk ((by rw [hg]; exact Nat.ne_of_lt (blk_lt (g := gb161) (o := .cells #[.string ((rd_T42 l0 x21_1).f0), .int .i64 ((rd_T42 l0 x21_1).f1), .int .i64 ((rd_T42 l0 x21_1).f2), .int .i64 ((rd_T42 l0 x21_1).f3), .int .i64 ((rd_T42 l0 x21_1).f4.f0), .int .i64 ((rd_T42 l0 x21_1).f4.f1), .int .i64 ((rd_T42 l0 x21_1).f4.f2), .int .i64 ((rd_T42 l0 x21_1).f5.f0), .int .i64 ((rd_T42 l0 x21_1).f5.f1), .int .i64 ((rd_T42 l0 x21_1).f6), .string ((rd_T42 l0 x21_1).f7)] 42 (0, 0)) (by (with_reducible repeat (first | refine blk_drewN ?_ _ | refine blk_drew ?_ | refine blk_alloc ?_ _)); refine blk_put (cs := #[.string ((rd_T42 l0 x21_1).f0), .int .i64 ((rd_T42 l0 x21_1).f1), .int .i64 ((rd_T42 l0 x21_1).f2), .int .i64 ((rd_T42 l0 x21_1).f3), .int .i64 ((rd_T42 l0 x21_1).f4.f0), .int .i64 ((rd_T42 l0 x21_1).f4.f1), .int .i64 ((rd_T42 l0 x21_1).f4.f2), .int .i64 ((rd_T42 l0 x21_1).f5.f0), .int .i64 ((rd_T42 l0 x21_1).f5.f1), .int .i64 ((rd_T42 l0 x21_1).f6), .string (⟨#[]⟩ : ByteArray)]) ?_ 10 _ rfl; (with_reducible repeat (first | refine blk_drewN ?_ _ | refine blk_drew ?_ | refine blk_alloc ?_ _)); refine blk_put (cs := #[.string ((rd_T42 l0 x21_1).f0), .int .i64 ((rd_T42 l0 x21_1).f1), .int .i64 ((rd_T42 l0 x21_1).f2), .int .i64 ((rd_T42 l0 x21_1).f3), .int .i64 ((rd_T42 l0 x21_1).f4.f0), .int .i64 ((rd_T42 l0 x21_1).f4.f1), .int .i64 ((rd_T42 l0 x21_1).f4.f2), .int .i64 ((rd_T42 l0 x21_1).f5.f0), .int .i64 ((rd_T42 l0 x21_1).f5.f1), .int .i64 0, .string (⟨#[]⟩ : ByteArray)]) ?_ 9 _ rfl; (with_reducible repeat (first | refine blk_drewN ?_ _ | refine blk_drew ?_ | refine blk_alloc ?_ _)); refine blk_put (cs := #[.string ((rd_T42 l0 x21_1).f0), .int .i64 ((rd_T42 l0 x21_1).f1), .int .i64 ((rd_T42 l0 x21_1).f2), .int .i64 ((rd_T42 l0 x21_1).f3), .int .i64 ((rd_T42 l0 x21_1).f4.f0), .int .i64 ((rd_T42 l0 x21_1).f4.f1), .int .i64 ((rd_T42 l0 x21_1).f4.f2), .int .i64 ((rd_T42 l0 x21_1).f5.f0), .int .i64 0, .int .i64 0, .string (⟨#[]⟩ : ByteArray)]) ?_ 8 _ rfl; (with_reducible repeat (first | refine blk_drewN ?_ _ | refine blk_drew ?_ | refine blk_alloc ?_ _)); refine blk_put (cs := #[.string ((rd_T42 l0 x21_1).f0), .int .i64 ((rd_T42 l0 x21_1).f1), .int .i64 ((rd_T42 l0 x21_1).f2), .int .i64 ((rd_T42 l0 x21_1).f3), .int .i64 ((rd_T42 l0 x21_1).f4.f0), .int .i64 ((rd_T42 l0 x21_1).f4.f1), .int .i64 ((rd_T42 l0 x21_1).f4.f2), .int .i64 0, .int .i64 0, .int .i64 0, .string (⟨#[]⟩ : ByteArray)]) ?_ 7 _ rfl; (with_reducible repeat (first | refine blk_drewN ?_ _ | refine blk_drew ?_ | refine blk_alloc ?_ _)); refine blk_put (cs := #[.string ((rd_T42 l0 x21_1).f0), .int .i64 ((rd_T42 l0 x21_1).f1), .int .i64 ((rd_T42 l0 x21_1).f2), .int .i64 ((rd_T42 l0 x21_1).f3), .int .i64 ((rd_T42 l0 x21_1).f4.f0), .int .i64 ((rd_T42 l0 x21_1).f4.f1), .int .i64 0, .int .i64 0, .int .i64 0, .int .i64 0, .string (⟨#[]⟩ : ByteArray)]) ?_ 6 _ rfl; (with_reducible repeat (first | refine blk_drewN ?_ _ | refine blk_drew ?_ | refine blk_alloc ?_ _)); refine blk_put (cs := #[.string ((rd_T42 l0 x21_1).f0), .int .i64 ((rd_T42 l0 x21_1).f1), .int .i64 ((rd_T42 l0 x21_1).f2), .int .i64 ((rd_T42 l0 x21_1).f3), .int .i64 ((rd_T42 l0 x21_1).f4.f0), .int .i64 0, .int .i64 0, .int .i64 0, .int .i64 0, .int .i64 0, .string (⟨#[]⟩ : ByteArray)]) ?_ 5 _ rfl; (with_reducible repeat (first | refine blk_drewN ?_ _ | refine blk_drew ?_ | refine blk_alloc ?_ _)); refine blk_put (cs := #[.string ((rd_T42 l0 x21_1).f0), .int .i64 ((rd_T42 l0 x21_1).f1), .int .i64 ((rd_T42 l0 x21_1).f2), .int .i64 ((rd_T42 l0 x21_1).f3), .int .i64 0, .int .i64 0, .int .i64 0, .int .i64 0, .int .i64 0, .int .i64 0, .string (⟨#[]⟩ : ByteArray)]) ?_ 4 _ rfl; (with_reducible repeat (first | refine blk_drewN ?_ _ | refine blk_drew ?_ | refine blk_alloc ?_ _)); refine blk_put (cs := #[.string ((rd_T42 l0 x21_1).f0), .int .i64 ((rd_T42 l0 x21_1).f1), .int .i64 ((rd_T42 l0 x21_1).f2), .int .i64 0, .int .i64 0, .int .i64 0, .int .i64 0, .int .i64 0, .int .i64 0, .int .i64 0, .string (⟨#[]⟩ : ByteArray)]) ?_ 3 _ rfl; (with_reducible repeat (first | refine blk_drewN ?_ _ | refine blk_drew ?_ | refine blk_alloc ?_ _)); refine blk_put (cs := #[.string ((rd_T42 l0 x21_1).f0), .int .i64 ((rd_T42 l0 x21_1).f1), .int .i64 0, .int .i64 0, .int .i64 0, .int .i64 0, .int .i64 0, .int .i64 0, .int .i64 0, .int .i64 0, .string (⟨#[]⟩ : ByteArray)]) ?_ 2 _ rfl; (with_reducible repeat (first | refine blk_drewN ?_ _ | refine blk_drew ?_ | refine blk_alloc ?_ _)); refine blk_put (cs := #[.string ((rd_T42 l0 x21_1).f0), .int .i64 0, .int .i64 0, .int .i64 0, .int .i64 0, .int .i64 0, .int .i64 0, .int .i64 0, .int .i64 0, .int .i64 0, .string (⟨#[]⟩ : ByteArray)]) ?_ 1 _ rfl; (with_reducible repeat (first | refine blk_drewN ?_ _ | refine blk_drew ?_ | refine blk_alloc ?_ _)); refine blk_put (cs := #[.string (⟨#[]⟩ : ByteArray), .int .i64 0, .int .i64 0, .int .i64 0, .int .i64 0, .int .i64 0, .int .i64 0, .int .i64 0, .int .i64 0, .int .i64 0, .string (⟨#[]⟩ : ByteArray)]) ?_ 0 _ rfl; (with_reducible repeat (first | refine blk_drewN ?_ _ | refine blk_drew ?_ | refine blk_alloc ?_ _)); exact BK161.out)) : gb161 ≠ gb162)); have n7_ := Aside0.mk ((by rw [hg]; exact Nat.ne_of_gt (blk_lt (g := gb161) (o := .cells #[.string ((rd_T42 l0 x21_1).f0), .int .i64 ((rd_T42 l0 x21_1).f1), .int .i64 ((rd_T42 l0 x21_1).f2), .int .i64 ((rd_T42 l0 x21_1).f3), .int .i64 ((rd_T42 l0 x21_1).f4.f0), .int .i64 ((rd_T42 l0 x21_1).f4.f1), .int .i64 ((rd_T42 l0 x21_1).f4.f2), .int .i64 ((rd_T42 l0 x21_1).f5.f0), .int .i64 ((rd_T42 l0 x21_1).f5.f1), .int .i64 ((rd_T42 l0 x21_1).f6), .string ((rd_T42 l0 x21_1).f7)] 42 (0, 0)) (by (with_reducible repeat (first | refine blk_drewN ?_ _ | refine blk_drew ?_ | refine blk_alloc ?_ _)); refine blk_put (cs := #[.string ((rd_T42 l0 x21_1).f0), .int .i64 ((rd_T42 l0 x21_1).f1), .int .i64 ((rd_T42 l0 x21_1).f2), .int .i64 ((rd_T42 l0 x21_1).f3), .int .i64 ((rd_T42 l0 x21_1).f4.f0), .int .i64 ((rd_T42 l0 x21_1).f4.f1), .int .i64 ((rd_T42 l0 x21_1).f4.f2), .int .i64 ((rd_T42 l0 x21_1).f5.f0), .int .i64 ((rd_T42 l0 x21_1).f5.f1), .int .i64 ((rd_T42 l0 x21_1).f6), .string (⟨#[]⟩ : ByteArray)]) ?_ 10 _ rfl; (with_reducible repeat (first | refine blk_drewN ?_ _ | refine blk_drew ?_ | refine blk_alloc ?_ _)); refine blk_put (cs := #[.string ((rd_T42 l0 x21_1).f0), .int .i64 ((rd_T42 l0 x21_1).f1), .int .i64 ((rd_T42 l0 x21_1).f2), .int .i64 ((rd_T42 l0 x21_1).f3), .int .i64 ((rd_T42 l0 x21_1).f4.f0), .int .i64 ((rd_T42 l0 x21_1).f4.f1), .int .i64 ((rd_T42 l0 x21_1).f4.f2), .int .i64 ((rd_T42 l0 x21_1).f5.f0), .int .i64 ((rd_T42 l0 x21_1).f5.f1), .int .i64 0, .string (⟨#[]⟩ : ByteArray)]) ?_ 9 _ rfl; (with_reducible repeat (first | refine blk_drewN ?_ _ | refine blk_drew ?_ | refine blk_alloc ?_ _)); refine blk_put (cs := #[.string ((rd_T42 l0 x21_1).f0), .int .i64 ((rd_T42 l0 x21_1).f1), .int .i64 ((rd_T42 l0 x21_1).f2), .int .i64 ((rd_T42 l0 x21_1).f3), .int .i64 ((rd_T42 l0 x21_1).f4.f0), .int .i64 ((rd_T42 l0 x21_1).f4.f1), .int .i64 ((rd_T42 l0 x21_1).f4.f2), .int .i64 ((rd_T42 l0 x21_1).f5.f0), .int .i64 0, .int .i64 0, .string (⟨#[]⟩ : ByteArray)]) ?_ 8 _ rfl; (with_reducible repeat (first | refine blk_drewN ?_ _ | refine blk_drew ?_ | refine blk_alloc ?_ _)); refine blk_put (cs := #[.string ((rd_T42 l0 x21_1).f0), .int .i64 ((rd_T42 l0 x21_1).f1), .int .i64 ((rd_T42 l0 x21_1).f2), .int .i64 ((rd_T42 l0 x21_1).f3), .int .i64 ((rd_T42 l0 x21_1).f4.f0), .int .i64 ((rd_T42 l0 x21_1).f4.f1), .int .i64 ((rd_T42 l0 x21_1).f4.f2), .int .i64 0, .int .i64 0, .int .i64 0, .string (⟨#[]⟩ : ByteArray)]) ?_ 7 _ rfl; (with_reducible repeat (first | refine blk_drewN ?_ _ | refine blk_drew ?_ | refine blk_alloc ?_ _)); refine blk_put (cs := #[.string ((rd_T42 l0 x21_1).f0), .int .i64 ((rd_T42 l0 x21_1).f1), .int .i64 ((rd_T42 l0 x21_1).f2), .int .i64 ((rd_T42 l0 x21_1).f3), .int .i64 ((rd_T42 l0 x21_1).f4.f0), .int .i64 ((rd_T42 l0 x21_1).f4.f1), .int .i64 0, .int .i64 0, .int .i64 0, .int .i64 0, .string (⟨#[]⟩ : ByteArray)]) ?_ 6 _ rfl; (with_reducible repeat (first | refine blk_drewN ?_ _ | refine blk_drew ?_ | refine blk_alloc ?_ _)); refine blk_put (cs := #[.string ((rd_T42 l0 x21_1).f0), .int .i64 ((rd_T42 l0 x21_1).f1), .int .i64 ((rd_T42 l0 x21_1).f2), .int .i64 ((rd_T42 l0 x21_1).f3), .int .i64 ((rd_T42 l0 x21_1).f4.f0), .int .i64 0, .int .i64 0, .int .i64 0, .int .i64 0, .int .i64 0, .string (⟨#[]⟩ : ByteArray)]) ?_ 5 _ rfl; (with_reducible repeat (first | refine blk_drewN ?_ _ | refine blk_drew ?_ | refine blk_alloc ?_ _)); refine blk_put (cs := #[.string ((rd_T42 l0 x21_1).f0), .int .i64 ((rd_T42 l0 x21_1).f1), .int .i64 ((rd_T42 l0 x21_1).f2), .int .i64 ((rd_T42 l0 x21_1).f3), .int .i64 0, .int .i64 0, .int .i64 0, .int .i64 0, .int .i64 0, .int .i64 0, .string (⟨#[]⟩ : ByteArray)]) ?_ 4 _ rfl; (with_reducible repeat (first | refine blk_drewN ?_ _ | refine blk_drew ?_ | refine blk_alloc ?_ _)); refine blk_put (cs := #[.string ((rd_T42 l0 x21_1).f0), .int .i64 ((rd_T42 l0 x21_1).f1), .int .i64 ((rd_T42 l0 x21_1).f2), .int .i64 0, .int .i64 0, .int .i64 0, .int .i64 0, .int .i64 0, .int .i64 0, .int .i64 0, .string (⟨#[]⟩ : ByteArray)]) ?_ 3 _ rfl; (with_reducible repeat (first | refine blk_drewN ?_ _ | refine blk_drew ?_ | refine blk_alloc ?_ _)); refine blk_put (cs := #[.string ((rd_T42 l0 x21_1).f0), .int .i64 ((rd_T42 l0 x21_1).f1), .int .i64 0, .int .i64 0, .int .i64 0, .int .i64 0, .int .i64 0, .int .i64 0, .int .i64 0, .int .i64 0, .string (⟨#[]⟩ : ByteArray)]) ?_ 2 _ rfl; (with_reducible repeat (first | refine blk_drewN ?_ _ | refine blk_drew ?_ | refine blk_alloc ?_ _)); refine blk_put (cs := #[.string ((rd_T42 l0 x21_1).f0), .int .i64 0, .int .i64 0, .int .i64 0, .int .i64 0, .int .i64 0, .int .i64 0, .int .i64 0, .int .i64 0, .int .i64 0, .string (⟨#[]⟩ : ByteArray)]) ?_ 1 _ rfl; (with_reducible repeat (first | refine blk_drewN ?_ _ | refine blk_drew ?_ | refine blk_alloc ?_ _)); refine blk_put (cs := #[.string (⟨#[]⟩ : ByteArray), .int .i64 0, .int .i64 0, .int .i64 0, .int .i64 0, .int .i64 0, .int .i64 0, .int .i64 0, .int .i64 0, .int .i64 0, .string (⟨#[]⟩ : ByteArray)]) ?_ 0 _ rfl; (with_reducible repeat (first | refine blk_drewN ?_ _ | refine blk_drew ?_ | refine blk_alloc ?_ _)); exact BK161.out)) : gb162 ≠ gb161)); clear HO_6; clear BK161; clear HB; have HO_6 := n0_; have BK161 := n1_; have HB := n2_; have BK162 := n3_; have GW162 := n4_; have GE162 := n5_; have NB161_162 := n6_; have NB162_161 := n7_; clear n0_ n1_ n2_ n3_ n4_ n5_ n6_ n7_; clear hb hbox hg; have hnb14 := NB162_161.out; have hnc14 := NB161_162.out; have hcz15_0 : w13.cell? ⟨gb162, 0, none⟩ = some (.string (⟨#[]⟩ : ByteArray)) := (blk_cell BK162.out 0).trans rfl; have hcz15_1 : w13.cell? ⟨gb162, 1, none⟩ = some (.int .i64 0) := (blk_cell BK162.out 1).trans rfl; have hcz15_2 : w13.cell? ⟨gb162, 2, none⟩ = some (.int .i64 0) := (blk_cell BK162.out 2).trans rfl; have hcz15_3 : w13.cell? ⟨gb162, 3, none⟩ = some (.int .i64 0) := (blk_cell BK162.out 3).trans rfl; have hcz15_4 : w13.cell? ⟨gb162, 4, none⟩ = some (.int .i64 0) := (blk_cell BK162.out 4).trans rfl; have hcz15_5 : w13.cell? ⟨gb162, 5, none⟩ = some (.int .i64 0) := (blk_cell BK162.out 5).trans rfl; have hcz15_6 : w13.cell? ⟨gb162, 6, none⟩ = some (.int .i64 0) := (blk_cell BK162.out 6).trans rfl; have hcz15_7 : w13.cell? ⟨gb162, 7, none⟩ = some (.int .i64 0) := (blk_cell BK162.out 7).trans rfl; have hcz15_8 : w13.cell? ⟨gb162, 8, none⟩ = some (.int .i64 0) := (blk_cell BK162.out 8).trans rfl; have hcz15_9 : w13.cell? ⟨gb162, 9, none⟩ = some (.int .i64 0) := (blk_cell BK162.out 9).trans rfl; have hcz15_10 : w13.cell? ⟨gb162, 10, none⟩ = some (.string (⟨#[]⟩ : ByteArray)) := (blk_cell BK162.out 10).trans rfl; have hfz15_0 := blk_frozen BK162.out 0; have hfz15_1 := blk_frozen BK162.out 1; have hfz15_2 := blk_frozen BK162.out 2; have hfz15_3 := blk_frozen BK162.out 3; have hfz15_4 := blk_frozen BK162.out 4; have hfz15_5 := blk_frozen BK162.out 5; have hfz15_6 := blk_frozen BK162.out 6; have hfz15_7 := blk_frozen BK162.out 7; have hfz15_8 := blk_frozen BK162.out 8; have hfz15_9 := blk_frozen BK162.out 9; have hfz15_10 := blk_frozen BK162.out 10) | ((with_reducible refine gate_callee (f := 17) rfl ?_); refine goesL_ (some 29) rfl rfl Try.func17 (by kernel_rfl) rfl #[.agg #[.string ((rd_T42 l0 x21_1).f0), .int .i64 ((rd_T42 l0 x21_1).f1), .int .i64 ((rd_T42 l0 x21_1).f2), .int .i64 ((rd_T42 l0 x21_1).f3), .int .i64 ((rd_T42 l0 x21_1).f4.f0), .int .i64 ((rd_T42 l0 x21_1).f4.f1), .int .i64 ((rd_T42 l0 x21_1).f4.f2), .int .i64 ((rd_T42 l0 x21_1).f5.f0), .int .i64 ((rd_T42 l0 x21_1).f5.f1), .int .i64 ((rd_T42 l0 x21_1).f6), .string ((rd_T42 l0 x21_1).f7)]] rfl (by (try simp only [List.map_toArray, List.map_cons, List.map_nil]); first | done | rfl | (simp only [List.length_drop, List.length_take]; rfl)) ?_; (with_reducible refine (expand_lasting_first.calls ((rd_T42 l0 x21_1).f0) ((rd_T42 l0 x21_1).f1) ((rd_T42 l0 x21_1).f2) ((rd_T42 l0 x21_1).f3) ((rd_T42 l0 x21_1).f4.f0) ((rd_T42 l0 x21_1).f4.f1) ((rd_T42 l0 x21_1).f4.f2) ((rd_T42 l0 x21_1).f5.f0) ((rd_T42 l0 x21_1).f5.f1) ((rd_T42 l0 x21_1).f6) ((rd_T42 l0 x21_1).f7) t163 _ A9.out).mono ?_); rintro e w16 ⟨rfl, hb⟩; refine ⟨_, rfl, ?_⟩; have n0_ := Aside0.mk (Kd.R_below (by (with_reducible repeat (first | apply Kd.R_alloc | apply Kd.R_drewN | apply Kd.R_drew)); exact (Kd.R_mono (Kd.R_far (p := ⟨gb162, 10, none⟩) (Kd.R_far (p := ⟨gb162, 9, none⟩) (Kd.R_far (p := ⟨gb162, 8, none⟩) (Kd.R_far (p := ⟨gb162, 7, none⟩) (Kd.R_far (p := ⟨gb162, 6, none⟩) (Kd.R_far (p := ⟨gb162, 5, none⟩) (Kd.R_far (p := ⟨gb162, 4, none⟩) (Kd.R_far (p := ⟨gb162, 3, none⟩) (Kd.R_far (p := ⟨gb162, 2, none⟩) (Kd.R_far (p := ⟨gb162, 1, none⟩) (Kd.R_far (p := ⟨gb162, 0, none⟩) (Kd.R_types HO_6.out BK162.out (by decide)) (fun _ hk => hk.2) (.string ((rd_T42 l0 x21_1).f0))) (fun _ hk => hk.2) (.int .i64 ((rd_T42 l0 x21_1).f1))) (fun _ hk => hk.2) (.int .i64 ((rd_T42 l0 x21_1).f2))) (fun _ hk => hk.2) (.int .i64 ((rd_T42 l0 x21_1).f3))) (fun _ hk => hk.2) (.int .i64 ((rd_T42 l0 x21_1).f4.f0))) (fun _ hk => hk.2) (.int .i64 ((rd_T42 l0 x21_1).f4.f1))) (fun _ hk => hk.2) (.int .i64 ((rd_T42 l0 x21_1).f4.f2))) (fun _ hk => hk.2) (.int .i64 ((rd_T42 l0 x21_1).f5.f0))) (fun _ hk => hk.2) (.int .i64 ((rd_T42 l0 x21_1).f5.f1))) (fun _ hk => hk.2) (.int .i64 ((rd_T42 l0 x21_1).f6))) (fun _ hk => hk.2) (.string ((rd_T42 l0 x21_1).f7))) (fun _ h_ => h_.1))) hb); have n1_ := Aside0.mk (blk_below (g := gb161) (o := .cells #[.string ((rd_T42 l0 x21_1).f0), .int .i64 ((rd_T42 l0 x21_1).f1), .int .i64 ((rd_T42 l0 x21_1).f2), .int .i64 ((rd_T42 l0 x21_1).f3), .int .i64 ((rd_T42 l0 x21_1).f4.f0), .int .i64 ((rd_T42 l0 x21_1).f4.f1), .int .i64 ((rd_T42 l0 x21_1).f4.f2), .int .i64 ((rd_T42 l0 x21_1).f5.f0), .int .i64 ((rd_T42 l0 x21_1).f5.f1), .int .i64 ((rd_T42 l0 x21_1).f6), .string ((rd_T42 l0 x21_1).f7)] 42 (0, 0)) (by (with_reducible repeat (first | refine blk_drewN ?_ _ | refine blk_drew ?_ | refine blk_alloc ?_ _)); refine blk_far ?_ NB161_162.out _; (with_reducible repeat (first | refine blk_drewN ?_ _ | refine blk_drew ?_ | refine blk_alloc ?_ _)); refine blk_far ?_ NB161_162.out _; (with_reducible repeat (first | refine blk_drewN ?_ _ | refine blk_drew ?_ | refine blk_alloc ?_ _)); refine blk_far ?_ NB161_162.out _; (with_reducible repeat (first | refine blk_drewN ?_ _ | refine blk_drew ?_ | refine blk_alloc ?_ _)); refine blk_far ?_ NB161_162.out _; (with_reducible repeat (first | refine blk_drewN ?_ _ | refine blk_drew ?_ | refine blk_alloc ?_ _)); refine blk_far ?_ NB161_162.out _; (with_reducible repeat (first | refine blk_drewN ?_ _ | refine blk_drew ?_ | refine blk_alloc ?_ _)); refine blk_far ?_ NB161_162.out _; (with_reducible repeat (first | refine blk_drewN ?_ _ | refine blk_drew ?_ | refine blk_alloc ?_ _)); refine blk_far ?_ NB161_162.out _; (with_reducible repeat (first | refine blk_drewN ?_ _ | refine blk_drew ?_ | refine blk_alloc ?_ _)); refine blk_far ?_ NB161_162.out _; (with_reducible repeat (first | refine blk_drewN ?_ _ | refine blk_drew ?_ | refine blk_alloc ?_ _)); refine blk_far ?_ NB161_162.out _; (with_reducible repeat (first | refine blk_drewN ?_ _ | refine blk_drew ?_ | refine blk_alloc ?_ _)); refine blk_far ?_ NB161_162.out _; (with_reducible repeat (first | refine blk_drewN ?_ _ | refine blk_drew ?_ | refine blk_alloc ?_ _)); refine blk_far ?_ NB161_162.out _; (with_reducible repeat (first | refine blk_drewN ?_ _ | refine blk_drew ?_ | refine blk_alloc ?_ _)); exact BK161.out) hb); have n2_ := Aside0.mk (blk_below (g := gb162) (o := .cells #[.string ((rd_T42 l0 x21_1).f0), .int .i64 ((rd_T42 l0 x21_1).f1), .int .i64 ((rd_T42 l0 x21_1).f2), .int .i64 ((rd_T42 l0 x21_1).f3), .int .i64 ((rd_T42 l0 x21_1).f4.f0), .int .i64 ((rd_T42 l0 x21_1).f4.f1), .int .i64 ((rd_T42 l0 x21_1).f4.f2), .int .i64 ((rd_T42 l0 x21_1).f5.f0), .int .i64 ((rd_T42 l0 x21_1).f5.f1), .int .i64 ((rd_T42 l0 x21_1).f6), .string ((rd_T42 l0 x21_1).f7)] 48 (0, 0)) (by (with_reducible repeat (first | refine blk_drewN ?_ _ | refine blk_drew ?_ | refine blk_alloc ?_ _)); refine blk_put (cs := #[.string ((rd_T42 l0 x21_1).f0), .int .i64 ((rd_T42 l0 x21_1).f1), .int .i64 ((rd_T42 l0 x21_1).f2), .int .i64 ((rd_T42 l0 x21_1).f3), .int .i64 ((rd_T42 l0 x21_1).f4.f0), .int .i64 ((rd_T42 l0 x21_1).f4.f1), .int .i64 ((rd_T42 l0 x21_1).f4.f2), .int .i64 ((rd_T42 l0 x21_1).f5.f0), .int .i64 ((rd_T42 l0 x21_1).f5.f1), .int .i64 ((rd_T42 l0 x21_1).f6), .string (⟨#[]⟩ : ByteArray)]) ?_ 10 _ rfl; (with_reducible repeat (first | refine blk_drewN ?_ _ | refine blk_drew ?_ | refine blk_alloc ?_ _)); refine blk_put (cs := #[.string ((rd_T42 l0 x21_1).f0), .int .i64 ((rd_T42 l0 x21_1).f1), .int .i64 ((rd_T42 l0 x21_1).f2), .int .i64 ((rd_T42 l0 x21_1).f3), .int .i64 ((rd_T42 l0 x21_1).f4.f0), .int .i64 ((rd_T42 l0 x21_1).f4.f1), .int .i64 ((rd_T42 l0 x21_1).f4.f2), .int .i64 ((rd_T42 l0 x21_1).f5.f0), .int .i64 ((rd_T42 l0 x21_1).f5.f1), .int .i64 0, .string (⟨#[]⟩ : ByteArray)]) ?_ 9 _ rfl; (with_reducible repeat (first | refine blk_drewN ?_ _ | refine blk_drew ?_ | refine blk_alloc ?_ _)); refine blk_put (cs := #[.string ((rd_T42 l0 x21_1).f0), .int .i64 ((rd_T42 l0 x21_1).f1), .int .i64 ((rd_T42 l0 x21_1).f2), .int .i64 ((rd_T42 l0 x21_1).f3), .int .i64 ((rd_T42 l0 x21_1).f4.f0), .int .i64 ((rd_T42 l0 x21_1).f4.f1), .int .i64 ((rd_T42 l0 x21_1).f4.f2), .int .i64 ((rd_T42 l0 x21_1).f5.f0), .int .i64 0, .int .i64 0, .string (⟨#[]⟩ : ByteArray)]) ?_ 8 _ rfl; (with_reducible repeat (first | refine blk_drewN ?_ _ | refine blk_drew ?_ | refine blk_alloc ?_ _)); refine blk_put (cs := #[.string ((rd_T42 l0 x21_1).f0), .int .i64 ((rd_T42 l0 x21_1).f1), .int .i64 ((rd_T42 l0 x21_1).f2), .int .i64 ((rd_T42 l0 x21_1).f3), .int .i64 ((rd_T42 l0 x21_1).f4.f0), .int .i64 ((rd_T42 l0 x21_1).f4.f1), .int .i64 ((rd_T42 l0 x21_1).f4.f2), .int .i64 0, .int .i64 0, .int .i64 0, .string (⟨#[]⟩ : ByteArray)]) ?_ 7 _ rfl; (with_reducible repeat (first | refine blk_drewN ?_ _ | refine blk_drew ?_ | refine blk_alloc ?_ _)); refine blk_put (cs := #[.string ((rd_T42 l0 x21_1).f0), .int .i64 ((rd_T42 l0 x21_1).f1), .int .i64 ((rd_T42 l0 x21_1).f2), .int .i64 ((rd_T42 l0 x21_1).f3), .int .i64 ((rd_T42 l0 x21_1).f4.f0), .int .i64 ((rd_T42 l0 x21_1).f4.f1), .int .i64 0, .int .i64 0, .int .i64 0, .int .i64 0, .string (⟨#[]⟩ : ByteArray)]) ?_ 6 _ rfl; (with_reducible repeat (first | refine blk_drewN ?_ _ | refine blk_drew ?_ | refine blk_alloc ?_ _)); refine blk_put (cs := #[.string ((rd_T42 l0 x21_1).f0), .int .i64 ((rd_T42 l0 x21_1).f1), .int .i64 ((rd_T42 l0 x21_1).f2), .int .i64 ((rd_T42 l0 x21_1).f3), .int .i64 ((rd_T42 l0 x21_1).f4.f0), .int .i64 0, .int .i64 0, .int .i64 0, .int .i64 0, .int .i64 0, .string (⟨#[]⟩ : ByteArray)]) ?_ 5 _ rfl; (with_reducible repeat (first | refine blk_drewN ?_ _ | refine blk_drew ?_ | refine blk_alloc ?_ _)); refine blk_put (cs := #[.string ((rd_T42 l0 x21_1).f0), .int .i64 ((rd_T42 l0 x21_1).f1), .int .i64 ((rd_T42 l0 x21_1).f2), .int .i64 ((rd_T42 l0 x21_1).f3), .int .i64 0, .int .i64 0, .int .i64 0, .int .i64 0, .int .i64 0, .int .i64 0, .string (⟨#[]⟩ : ByteArray)]) ?_ 4 _ rfl; (with_reducible repeat (first | refine blk_drewN ?_ _ | refine blk_drew ?_ | refine blk_alloc ?_ _)); refine blk_put (cs := #[.string ((rd_T42 l0 x21_1).f0), .int .i64 ((rd_T42 l0 x21_1).f1), .int .i64 ((rd_T42 l0 x21_1).f2), .int .i64 0, .int .i64 0, .int .i64 0, .int .i64 0, .int .i64 0, .int .i64 0, .int .i64 0, .string (⟨#[]⟩ : ByteArray)]) ?_ 3 _ rfl; (with_reducible repeat (first | refine blk_drewN ?_ _ | refine blk_drew ?_ | refine blk_alloc ?_ _)); refine blk_put (cs := #[.string ((rd_T42 l0 x21_1).f0), .int .i64 ((rd_T42 l0 x21_1).f1), .int .i64 0, .int .i64 0, .int .i64 0, .int .i64 0, .int .i64 0, .int .i64 0, .int .i64 0, .int .i64 0, .string (⟨#[]⟩ : ByteArray)]) ?_ 2 _ rfl; (with_reducible repeat (first | refine blk_drewN ?_ _ | refine blk_drew ?_ | refine blk_alloc ?_ _)); refine blk_put (cs := #[.string ((rd_T42 l0 x21_1).f0), .int .i64 0, .int .i64 0, .int .i64 0, .int .i64 0, .int .i64 0, .int .i64 0, .int .i64 0, .int .i64 0, .int .i64 0, .string (⟨#[]⟩ : ByteArray)]) ?_ 1 _ rfl; (with_reducible repeat (first | refine blk_drewN ?_ _ | refine blk_drew ?_ | refine blk_alloc ?_ _)); refine blk_put (cs := #[.string (⟨#[]⟩ : ByteArray), .int .i64 0, .int .i64 0, .int .i64 0, .int .i64 0, .int .i64 0, .int .i64 0, .int .i64 0, .int .i64 0, .int .i64 0, .string (⟨#[]⟩ : ByteArray)]) ?_ 0 _ rfl; (with_reducible repeat (first | refine blk_drewN ?_ _ | refine blk_drew ?_ | refine blk_alloc ?_ _)); exact BK162.out) hb); have n3_ := Aside0.mk (below_step (by repeat (first | (with_reducible first | exact HB.out | apply below_alloc | apply pw_below_drewN | apply below_drew1 | refine below_set ?_ GE161.out | refine below_set ?_ GE162.out) | exact HB.out)) hb); clear HO_6; clear BK161; clear BK162; clear HB; have HO_6 := n0_; have BK161 := n1_; have BK162 := n2_; have HB := n3_; clear n0_ n1_ n2_ n3_; (try clear hb); (try clear hb2); (try clear hk); (try clear hi)))
            go_loopg [6, 10] k1 (fun kq v6 v10 w' => ∃ (x6_2 : List (S36)) (x10_2 : Int), v10 = .int .i64 x10_2 ∧ Aside0 (expand_From.l1 kq l0 ji4 ji5 x6_2 x21_1 x10_2 l0 (l0.length : Int) x21_1 ((rd_T42 l0 x21_1).f0) ((rd_T42 l0 x21_1).f1) ((rd_T42 l0 x21_1).f2) ((rd_T42 l0 x21_1).f3) ((rd_T42 l0 x21_1).f4.f0) ((rd_T42 l0 x21_1).f4.f1) ((rd_T42 l0 x21_1).f4.f2) ((rd_T42 l0 x21_1).f5.f0) ((rd_T42 l0 x21_1).f5.f1) ((rd_T42 l0 x21_1).f6) ((rd_T42 l0 x21_1).f7) = some r) ∧ Aside0 (kq ≤ k1) ∧ Aside0 (Kd.R k36 36 w' w.heap.size (fun _ => True) v6 x6_2) ∧ Aside0 (w'.heap[gb161]? = some (.cells #[.string ((rd_T42 l0 x21_1).f0), .int .i64 ((rd_T42 l0 x21_1).f1), .int .i64 ((rd_T42 l0 x21_1).f2), .int .i64 ((rd_T42 l0 x21_1).f3), .int .i64 ((rd_T42 l0 x21_1).f4.f0), .int .i64 ((rd_T42 l0 x21_1).f4.f1), .int .i64 ((rd_T42 l0 x21_1).f4.f2), .int .i64 ((rd_T42 l0 x21_1).f5.f0), .int .i64 ((rd_T42 l0 x21_1).f5.f1), .int .i64 ((rd_T42 l0 x21_1).f6), .string ((rd_T42 l0 x21_1).f7)] 42 (0, 0))) ∧ Aside0 (w'.heap[gb162]? = some (.cells #[.string ((rd_T42 l0 x21_1).f0), .int .i64 ((rd_T42 l0 x21_1).f1), .int .i64 ((rd_T42 l0 x21_1).f2), .int .i64 ((rd_T42 l0 x21_1).f3), .int .i64 ((rd_T42 l0 x21_1).f4.f0), .int .i64 ((rd_T42 l0 x21_1).f4.f1), .int .i64 ((rd_T42 l0 x21_1).f4.f2), .int .i64 ((rd_T42 l0 x21_1).f5.f0), .int .i64 ((rd_T42 l0 x21_1).f5.f1), .int .i64 ((rd_T42 l0 x21_1).f6), .string ((rd_T42 l0 x21_1).f7)] 48 (0, 0))) ∧ Aside0 (Below w.heap.size w w'))
            case atStart => exact ⟨(x6_1), (ji10), (by first | rfl | (simp; done) | (simp only [← hji10] <;> (first | rfl | simp)) | (simp [*]; done)), H', ⟨Nat.le_refl _⟩, ⟨by (with_reducible repeat (first | apply Kd.R_alloc | apply Kd.R_drewN | apply Kd.R_drew)); exact HO_6.out⟩, ⟨by (with_reducible repeat (first | refine blk_drewN ?_ _ | refine blk_drew ?_ | refine blk_alloc ?_ _)); exact BK161.out⟩, ⟨by (with_reducible repeat (first | refine blk_drewN ?_ _ | refine blk_drew ?_ | refine blk_alloc ?_ _)); exact BK162.out⟩, ⟨by repeat (first | (with_reducible first | exact HB.out | apply below_alloc | apply pw_below_drewN | apply below_drew1 | refine below_set ?_ GE161.out | refine below_set ?_ GE162.out) | exact HB.out)⟩⟩
            case round =>
              clear H'
              try clear c1
              try clear p1
              try clear q1
              try clear hx1
              try clear p2
              try clear c6
              try clear c6b0
              try clear c7
              try clear c7b0
              try clear c8
              try clear c8b0
              try clear c11
              try clear c14
              try clear p16
              try clear q16
              try clear hx16
              try clear hcz12_0
              try clear hcz12_1
              try clear hcz12_10
              try clear hcz12_2
              try clear hcz12_3
              try clear hcz12_4
              try clear hcz12_5
              try clear hcz12_6
              try clear hcz12_7
              try clear hcz12_8
              try clear hcz12_9
              try clear hcz15_0
              try clear hcz15_1
              try clear hcz15_10
              try clear hcz15_2
              try clear hcz15_3
              try clear hcz15_4
              try clear hcz15_5
              try clear hcz15_6
              try clear hcz15_7
              try clear hcz15_8
              try clear hcz15_9
              try clear hfz12_0
              try clear hfz12_1
              try clear hfz12_10
              try clear hfz12_2
              try clear hfz12_3
              try clear hfz12_4
              try clear hfz12_5
              try clear hfz12_6
              try clear hfz12_7
              try clear hfz12_8
              try clear hfz12_9
              try clear hfz15_0
              try clear hfz15_1
              try clear hfz15_10
              try clear hfz15_2
              try clear hfz15_3
              try clear hfz15_4
              try clear hfz15_5
              try clear hfz15_6
              try clear hfz15_7
              try clear hfz15_8
              try clear hfz15_9
              try clear hx160_0
              try clear hx160_1
              try clear hx160_10
              try clear hx160_2
              try clear hx160_3
              try clear hx160_4
              try clear hx160_5
              try clear hx160_6
              try clear hx160_7
              try clear hx160_8
              try clear hx160_9
              try clear p160
              try clear p2
              try clear q160
              obtain ⟨x6_2, x10_2, rfl, HA, HK2, HO_6, BK161, BK162, HB⟩ := hrel
              cases gk with
              | zero => exact absurd HA.out (by simp [expand_From.l1])
              | succ k2 =>
                have H := HA.out
                clear HA
                simp only [expand_From.l1] at H
                replace H := Option.bind_eq_some_iff.mp H
                obtain ⟨t164, A170, H⟩ := H
                replace H : (if x10_2 ≤ (mn ji5 t164) then ((expand_lasting_fire.f k2 ((rd_T42 l0 x21_1).f0) ((rd_T42 l0 x21_1).f1) ((rd_T42 l0 x21_1).f2) ((rd_T42 l0 x21_1).f3) ((rd_T42 l0 x21_1).f4.f0) ((rd_T42 l0 x21_1).f4.f1) ((rd_T42 l0 x21_1).f4.f2) ((rd_T42 l0 x21_1).f5.f0) ((rd_T42 l0 x21_1).f5.f1) ((rd_T42 l0 x21_1).f6) ((rd_T42 l0 x21_1).f7) x21_1 x10_2).bind fun bt165 => (if bt165.2.2.2.2 = true then (if x6_2.length < 4398046511104 then (expand_From.l1 k2 l0 ji4 ji5 (x6_2 ++ [(⟨bt165.1, bt165.2.1, bt165.2.2.1, bt165.2.2.2.1⟩ : S36)]) x21_1 (wrap64 (x10_2 + 1)) l0 (l0.length : Int) x21_1 ((rd_T42 l0 x21_1).f0) ((rd_T42 l0 x21_1).f1) ((rd_T42 l0 x21_1).f2) ((rd_T42 l0 x21_1).f3) ((rd_T42 l0 x21_1).f4.f0) ((rd_T42 l0 x21_1).f4.f1) ((rd_T42 l0 x21_1).f4.f2) ((rd_T42 l0 x21_1).f5.f0) ((rd_T42 l0 x21_1).f5.f1) ((rd_T42 l0 x21_1).f6) ((rd_T42 l0 x21_1).f7)) else (none)) else (expand_From.l1 k2 l0 ji4 ji5 x6_2 x21_1 (wrap64 (x10_2 + 1)) l0 (l0.length : Int) x21_1 ((rd_T42 l0 x21_1).f0) ((rd_T42 l0 x21_1).f1) ((rd_T42 l0 x21_1).f2) ((rd_T42 l0 x21_1).f3) ((rd_T42 l0 x21_1).f4.f0) ((rd_T42 l0 x21_1).f4.f1) ((rd_T42 l0 x21_1).f4.f2) ((rd_T42 l0 x21_1).f5.f0) ((rd_T42 l0 x21_1).f5.f1) ((rd_T42 l0 x21_1).f6) ((rd_T42 l0 x21_1).f7)))) else (expand_From.l0 k2 l0 ji4 ji5 x6_2 l0 (l0.length : Int) (wrap64 (x21_1 + 1)))) = some r := H
                have A17 := Aside0.mk A170
                clear A170
                obtain ⟨ji18, hji18⟩ : ∃ j_ : Int, (mn ji5 t164) = j_ := ⟨_, rfl⟩
                replace H : (if x10_2 ≤ (ji18) then ((expand_lasting_fire.f k2 ((rd_T42 l0 x21_1).f0) ((rd_T42 l0 x21_1).f1) ((rd_T42 l0 x21_1).f2) ((rd_T42 l0 x21_1).f3) ((rd_T42 l0 x21_1).f4.f0) ((rd_T42 l0 x21_1).f4.f1) ((rd_T42 l0 x21_1).f4.f2) ((rd_T42 l0 x21_1).f5.f0) ((rd_T42 l0 x21_1).f5.f1) ((rd_T42 l0 x21_1).f6) ((rd_T42 l0 x21_1).f7) x21_1 x10_2).bind fun bt165 => (if bt165.2.2.2.2 = true then (if x6_2.length < 4398046511104 then (expand_From.l1 k2 l0 ji4 ji5 (x6_2 ++ [(⟨bt165.1, bt165.2.1, bt165.2.2.1, bt165.2.2.2.1⟩ : S36)]) x21_1 (wrap64 (x10_2 + 1)) l0 (l0.length : Int) x21_1 ((rd_T42 l0 x21_1).f0) ((rd_T42 l0 x21_1).f1) ((rd_T42 l0 x21_1).f2) ((rd_T42 l0 x21_1).f3) ((rd_T42 l0 x21_1).f4.f0) ((rd_T42 l0 x21_1).f4.f1) ((rd_T42 l0 x21_1).f4.f2) ((rd_T42 l0 x21_1).f5.f0) ((rd_T42 l0 x21_1).f5.f1) ((rd_T42 l0 x21_1).f6) ((rd_T42 l0 x21_1).f7)) else (none)) else (expand_From.l1 k2 l0 ji4 ji5 x6_2 x21_1 (wrap64 (x10_2 + 1)) l0 (l0.length : Int) x21_1 ((rd_T42 l0 x21_1).f0) ((rd_T42 l0 x21_1).f1) ((rd_T42 l0 x21_1).f2) ((rd_T42 l0 x21_1).f3) ((rd_T42 l0 x21_1).f4.f0) ((rd_T42 l0 x21_1).f4.f1) ((rd_T42 l0 x21_1).f4.f2) ((rd_T42 l0 x21_1).f5.f0) ((rd_T42 l0 x21_1).f5.f1) ((rd_T42 l0 x21_1).f6) ((rd_T42 l0 x21_1).f7)))) else (expand_From.l0 k2 l0 ji4 ji5 x6_2 l0 (l0.length : Int) (wrap64 (x21_1 + 1)))) = some r := by first | (rw [hji18] at H; exact H) | (simp only [hji18] at H ⊢; exact H)
                (try rw [hji18] at A17)
                have hji18_ : (if t164 < ji5 then t164 else ji5) = ji18 := hji18
                by_cases c19 : x10_2 ≤ (ji18)
                · rw [if_pos c19] at H
                  have c19b0 : decide (x10_2 ≤ (ji18)) = true := decide_eq_true c19
                  clear c19
                  replace H := Option.bind_eq_some_iff.mp H
                  obtain ⟨⟨t165, t166, t167, t168, t169⟩, A200, H⟩ := H
                  replace H : (if t169 = true then (if x6_2.length < 4398046511104 then (expand_From.l1 k2 l0 ji4 ji5 (x6_2 ++ [(⟨t165, t166, t167, t168⟩ : S36)]) x21_1 (wrap64 (x10_2 + 1)) l0 (l0.length : Int) x21_1 ((rd_T42 l0 x21_1).f0) ((rd_T42 l0 x21_1).f1) ((rd_T42 l0 x21_1).f2) ((rd_T42 l0 x21_1).f3) ((rd_T42 l0 x21_1).f4.f0) ((rd_T42 l0 x21_1).f4.f1) ((rd_T42 l0 x21_1).f4.f2) ((rd_T42 l0 x21_1).f5.f0) ((rd_T42 l0 x21_1).f5.f1) ((rd_T42 l0 x21_1).f6) ((rd_T42 l0 x21_1).f7)) else (none)) else (expand_From.l1 k2 l0 ji4 ji5 x6_2 x21_1 (wrap64 (x10_2 + 1)) l0 (l0.length : Int) x21_1 ((rd_T42 l0 x21_1).f0) ((rd_T42 l0 x21_1).f1) ((rd_T42 l0 x21_1).f2) ((rd_T42 l0 x21_1).f3) ((rd_T42 l0 x21_1).f4.f0) ((rd_T42 l0 x21_1).f4.f1) ((rd_T42 l0 x21_1).f4.f2) ((rd_T42 l0 x21_1).f5.f0) ((rd_T42 l0 x21_1).f5.f1) ((rd_T42 l0 x21_1).f6) ((rd_T42 l0 x21_1).f7))) = some r := H
                  have A20 := Aside0.mk A200
                  clear A200
                  by_cases c21 : t169 = true
                  · subst c21
                    have H1 : (if x6_2.length < 4398046511104 then (expand_From.l1 k2 l0 ji4 ji5 (x6_2 ++ [(⟨t165, t166, t167, t168⟩ : S36)]) x21_1 (wrap64 (x10_2 + 1)) l0 (l0.length : Int) x21_1 ((rd_T42 l0 x21_1).f0) ((rd_T42 l0 x21_1).f1) ((rd_T42 l0 x21_1).f2) ((rd_T42 l0 x21_1).f3) ((rd_T42 l0 x21_1).f4.f0) ((rd_T42 l0 x21_1).f4.f1) ((rd_T42 l0 x21_1).f4.f2) ((rd_T42 l0 x21_1).f5.f0) ((rd_T42 l0 x21_1).f5.f1) ((rd_T42 l0 x21_1).f6) ((rd_T42 l0 x21_1).f7)) else (none)) = some r := by rw [if_pos rfl] at H; exact H
                    clear H
                    have H := H1
                    clear H1
                    by_cases c22 : x6_2.length < 4398046511104
                    · rw [if_pos c22] at H
                      have LMc22 := Aside0.mk c22
                      clear c22
                      obtain ⟨y171, hy171⟩ : ∃ y_ : List (S36), y_ = (x6_2 ++ [(⟨t165, t166, t167, t168⟩ : S36)]) := ⟨_, rfl⟩
                      replace H : (expand_From.l1 k2 l0 ji4 ji5 y171 x21_1 (wrap64 (x10_2 + 1)) l0 (l0.length : Int) x21_1 ((rd_T42 l0 x21_1).f0) ((rd_T42 l0 x21_1).f1) ((rd_T42 l0 x21_1).f2) ((rd_T42 l0 x21_1).f3) ((rd_T42 l0 x21_1).f4.f0) ((rd_T42 l0 x21_1).f4.f1) ((rd_T42 l0 x21_1).f4.f2) ((rd_T42 l0 x21_1).f5.f0) ((rd_T42 l0 x21_1).f5.f1) ((rd_T42 l0 x21_1).f6) ((rd_T42 l0 x21_1).f7)) = some r := by first | (rw [hy171]; with_reducible exact H) | (have H2_ := (Option.bind_some _ _).symm.trans H; rw [hy171]; with_reducible exact H2_) | (have H2_ := (Option.bind_some _ _).symm.trans H; with_reducible exact H2_) | with_reducible exact H | (rw [hy171]; exact H) | exact H
                      have Ny171 := Aside0.mk hy171
                      clear hy171
                      have H' := Aside0.mk H
                      clear H
                      have hnb23 := NB162_161.out
                      have hnc23 := NB161_162.out
                      have hcz24_0 : wr.cell? ⟨gb162, 0, none⟩ = some (.string ((rd_T42 l0 x21_1).f0)) := (blk_cell BK162.out 0).trans rfl
                      have hcz24_1 : wr.cell? ⟨gb162, 1, none⟩ = some (.int .i64 ((rd_T42 l0 x21_1).f1)) := (blk_cell BK162.out 1).trans rfl
                      have hcz24_2 : wr.cell? ⟨gb162, 2, none⟩ = some (.int .i64 ((rd_T42 l0 x21_1).f2)) := (blk_cell BK162.out 2).trans rfl
                      have hcz24_3 : wr.cell? ⟨gb162, 3, none⟩ = some (.int .i64 ((rd_T42 l0 x21_1).f3)) := (blk_cell BK162.out 3).trans rfl
                      have hcz24_4 : wr.cell? ⟨gb162, 4, none⟩ = some (.int .i64 ((rd_T42 l0 x21_1).f4.f0)) := (blk_cell BK162.out 4).trans rfl
                      have hcz24_5 : wr.cell? ⟨gb162, 5, none⟩ = some (.int .i64 ((rd_T42 l0 x21_1).f4.f1)) := (blk_cell BK162.out 5).trans rfl
                      have hcz24_6 : wr.cell? ⟨gb162, 6, none⟩ = some (.int .i64 ((rd_T42 l0 x21_1).f4.f2)) := (blk_cell BK162.out 6).trans rfl
                      have hcz24_7 : wr.cell? ⟨gb162, 7, none⟩ = some (.int .i64 ((rd_T42 l0 x21_1).f5.f0)) := (blk_cell BK162.out 7).trans rfl
                      have hcz24_8 : wr.cell? ⟨gb162, 8, none⟩ = some (.int .i64 ((rd_T42 l0 x21_1).f5.f1)) := (blk_cell BK162.out 8).trans rfl
                      have hcz24_9 : wr.cell? ⟨gb162, 9, none⟩ = some (.int .i64 ((rd_T42 l0 x21_1).f6)) := (blk_cell BK162.out 9).trans rfl
                      have hcz24_10 : wr.cell? ⟨gb162, 10, none⟩ = some (.string ((rd_T42 l0 x21_1).f7)) := (blk_cell BK162.out 10).trans rfl
                      have hfz24_0 := blk_frozen BK162.out 0
                      have hfz24_1 := blk_frozen BK162.out 1
                      have hfz24_2 := blk_frozen BK162.out 2
                      have hfz24_3 := blk_frozen BK162.out 3
                      have hfz24_4 := blk_frozen BK162.out 4
                      have hfz24_5 := blk_frozen BK162.out 5
                      have hfz24_6 := blk_frozen BK162.out 6
                      have hfz24_7 := blk_frozen BK162.out 7
                      have hfz24_8 := blk_frozen BK162.out 8
                      have hfz24_9 := blk_frozen BK162.out 9
                      have hfz24_10 := blk_frozen BK162.out 10
                      go_wp2_with (first | ((with_reducible refine gate_callee (f := 18) rfl ?_); refine goesL_ (some 34) rfl rfl Try.func18 (by kernel_rfl) rfl #[.agg #[.string ((rd_T42 l0 x21_1).f0), .int .i64 ((rd_T42 l0 x21_1).f1), .int .i64 ((rd_T42 l0 x21_1).f2), .int .i64 ((rd_T42 l0 x21_1).f3), .int .i64 ((rd_T42 l0 x21_1).f4.f0), .int .i64 ((rd_T42 l0 x21_1).f4.f1), .int .i64 ((rd_T42 l0 x21_1).f4.f2), .int .i64 ((rd_T42 l0 x21_1).f5.f0), .int .i64 ((rd_T42 l0 x21_1).f5.f1), .int .i64 ((rd_T42 l0 x21_1).f6), .string ((rd_T42 l0 x21_1).f7)]] rfl (by (try simp only [List.map_toArray, List.map_cons, List.map_nil]); first | done | rfl | (simp only [List.length_drop, List.length_take]; rfl)) ?_; (with_reducible refine (expand_lasting_last.calls ((rd_T42 l0 x21_1).f0) ((rd_T42 l0 x21_1).f1) ((rd_T42 l0 x21_1).f2) ((rd_T42 l0 x21_1).f3) ((rd_T42 l0 x21_1).f4.f0) ((rd_T42 l0 x21_1).f4.f1) ((rd_T42 l0 x21_1).f4.f2) ((rd_T42 l0 x21_1).f5.f0) ((rd_T42 l0 x21_1).f5.f1) ((rd_T42 l0 x21_1).f6) ((rd_T42 l0 x21_1).f7) t164 _ A17.out).mono ?_); rintro e w25 ⟨rfl, hb⟩; refine ⟨_, rfl, ?_⟩; have n0_ := Aside0.mk (Kd.R_below (by (with_reducible repeat (first | apply Kd.R_alloc | apply Kd.R_drewN | apply Kd.R_drew)); exact HO_6.out) hb); have n1_ := Aside0.mk (blk_below (g := gb161) (o := .cells #[.string ((rd_T42 l0 x21_1).f0), .int .i64 ((rd_T42 l0 x21_1).f1), .int .i64 ((rd_T42 l0 x21_1).f2), .int .i64 ((rd_T42 l0 x21_1).f3), .int .i64 ((rd_T42 l0 x21_1).f4.f0), .int .i64 ((rd_T42 l0 x21_1).f4.f1), .int .i64 ((rd_T42 l0 x21_1).f4.f2), .int .i64 ((rd_T42 l0 x21_1).f5.f0), .int .i64 ((rd_T42 l0 x21_1).f5.f1), .int .i64 ((rd_T42 l0 x21_1).f6), .string ((rd_T42 l0 x21_1).f7)] 42 (0, 0)) (by (with_reducible repeat (first | refine blk_drewN ?_ _ | refine blk_drew ?_ | refine blk_alloc ?_ _)); exact BK161.out) hb); have n2_ := Aside0.mk (blk_below (g := gb162) (o := .cells #[.string ((rd_T42 l0 x21_1).f0), .int .i64 ((rd_T42 l0 x21_1).f1), .int .i64 ((rd_T42 l0 x21_1).f2), .int .i64 ((rd_T42 l0 x21_1).f3), .int .i64 ((rd_T42 l0 x21_1).f4.f0), .int .i64 ((rd_T42 l0 x21_1).f4.f1), .int .i64 ((rd_T42 l0 x21_1).f4.f2), .int .i64 ((rd_T42 l0 x21_1).f5.f0), .int .i64 ((rd_T42 l0 x21_1).f5.f1), .int .i64 ((rd_T42 l0 x21_1).f6), .string ((rd_T42 l0 x21_1).f7)] 48 (0, 0)) (by (with_reducible repeat (first | refine blk_drewN ?_ _ | refine blk_drew ?_ | refine blk_alloc ?_ _)); exact BK162.out) hb); have n3_ := Aside0.mk (below_step (by repeat (first | (with_reducible first | exact HB.out | apply below_alloc | apply pw_below_drewN | apply below_drew1 | refine below_set ?_ GE161.out | refine below_set ?_ GE162.out) | exact HB.out)) hb); clear HO_6; clear BK161; clear BK162; clear HB; have HO_6 := n0_; have BK161 := n1_; have BK162 := n2_; have HB := n3_; clear n0_ n1_ n2_ n3_; (try clear hb); (try clear hb2); (try clear hk); (try clear hi); have hcz26_0 : w25.cell? ⟨gb162, 0, none⟩ = some (.string ((rd_T42 l0 x21_1).f0)) := (blk_cell BK162.out 0).trans rfl; have hcz26_1 : w25.cell? ⟨gb162, 1, none⟩ = some (.int .i64 ((rd_T42 l0 x21_1).f1)) := (blk_cell BK162.out 1).trans rfl; have hcz26_2 : w25.cell? ⟨gb162, 2, none⟩ = some (.int .i64 ((rd_T42 l0 x21_1).f2)) := (blk_cell BK162.out 2).trans rfl; have hcz26_3 : w25.cell? ⟨gb162, 3, none⟩ = some (.int .i64 ((rd_T42 l0 x21_1).f3)) := (blk_cell BK162.out 3).trans rfl; have hcz26_4 : w25.cell? ⟨gb162, 4, none⟩ = some (.int .i64 ((rd_T42 l0 x21_1).f4.f0)) := (blk_cell BK162.out 4).trans rfl; have hcz26_5 : w25.cell? ⟨gb162, 5, none⟩ = some (.int .i64 ((rd_T42 l0 x21_1).f4.f1)) := (blk_cell BK162.out 5).trans rfl; have hcz26_6 : w25.cell? ⟨gb162, 6, none⟩ = some (.int .i64 ((rd_T42 l0 x21_1).f4.f2)) := (blk_cell BK162.out 6).trans rfl; have hcz26_7 : w25.cell? ⟨gb162, 7, none⟩ = some (.int .i64 ((rd_T42 l0 x21_1).f5.f0)) := (blk_cell BK162.out 7).trans rfl; have hcz26_8 : w25.cell? ⟨gb162, 8, none⟩ = some (.int .i64 ((rd_T42 l0 x21_1).f5.f1)) := (blk_cell BK162.out 8).trans rfl; have hcz26_9 : w25.cell? ⟨gb162, 9, none⟩ = some (.int .i64 ((rd_T42 l0 x21_1).f6)) := (blk_cell BK162.out 9).trans rfl; have hcz26_10 : w25.cell? ⟨gb162, 10, none⟩ = some (.string ((rd_T42 l0 x21_1).f7)) := (blk_cell BK162.out 10).trans rfl; have hfz26_0 := blk_frozen BK162.out 0; have hfz26_1 := blk_frozen BK162.out 1; have hfz26_2 := blk_frozen BK162.out 2; have hfz26_3 := blk_frozen BK162.out 3; have hfz26_4 := blk_frozen BK162.out 4; have hfz26_5 := blk_frozen BK162.out 5; have hfz26_6 := blk_frozen BK162.out 6; have hfz26_7 := blk_frozen BK162.out 7; have hfz26_8 := blk_frozen BK162.out 8; have hfz26_9 := blk_frozen BK162.out 9; have hfz26_10 := blk_frozen BK162.out 10) | ((with_reducible refine gate_callee (f := 19) rfl ?_); refine goesL_ (some 43) rfl rfl Try.func19 (by kernel_rfl) rfl #[.agg #[.string ((rd_T42 l0 x21_1).f0), .int .i64 ((rd_T42 l0 x21_1).f1), .int .i64 ((rd_T42 l0 x21_1).f2), .int .i64 ((rd_T42 l0 x21_1).f3), .int .i64 ((rd_T42 l0 x21_1).f4.f0), .int .i64 ((rd_T42 l0 x21_1).f4.f1), .int .i64 ((rd_T42 l0 x21_1).f4.f2), .int .i64 ((rd_T42 l0 x21_1).f5.f0), .int .i64 ((rd_T42 l0 x21_1).f5.f1), .int .i64 ((rd_T42 l0 x21_1).f6), .string ((rd_T42 l0 x21_1).f7)], .int .i64 x21_1, .int .i64 x10_2] rfl (by (try simp only [List.map_toArray, List.map_cons, List.map_nil]); first | done | rfl | (simp only [List.length_drop, List.length_take]; rfl)) ?_; (with_reducible refine (expand_lasting_fire.calls k2 ((rd_T42 l0 x21_1).f0) ((rd_T42 l0 x21_1).f1) ((rd_T42 l0 x21_1).f2) ((rd_T42 l0 x21_1).f3) ((rd_T42 l0 x21_1).f4.f0) ((rd_T42 l0 x21_1).f4.f1) ((rd_T42 l0 x21_1).f4.f2) ((rd_T42 l0 x21_1).f5.f0) ((rd_T42 l0 x21_1).f5.f1) ((rd_T42 l0 x21_1).f6) ((rd_T42 l0 x21_1).f7) x21_1 x10_2 t165 t166 t167 t168 true _ A20.out).mono ?_); rintro e w27 ⟨rfl, hb⟩; refine ⟨_, rfl, ?_⟩; have n0_ := Aside0.mk (Kd.R_below (by (with_reducible repeat (first | apply Kd.R_alloc | apply Kd.R_drewN | apply Kd.R_drew)); exact HO_6.out) hb); have n1_ := Aside0.mk (blk_below (g := gb161) (o := .cells #[.string ((rd_T42 l0 x21_1).f0), .int .i64 ((rd_T42 l0 x21_1).f1), .int .i64 ((rd_T42 l0 x21_1).f2), .int .i64 ((rd_T42 l0 x21_1).f3), .int .i64 ((rd_T42 l0 x21_1).f4.f0), .int .i64 ((rd_T42 l0 x21_1).f4.f1), .int .i64 ((rd_T42 l0 x21_1).f4.f2), .int .i64 ((rd_T42 l0 x21_1).f5.f0), .int .i64 ((rd_T42 l0 x21_1).f5.f1), .int .i64 ((rd_T42 l0 x21_1).f6), .string ((rd_T42 l0 x21_1).f7)] 42 (0, 0)) (by (with_reducible repeat (first | refine blk_drewN ?_ _ | refine blk_drew ?_ | refine blk_alloc ?_ _)); exact BK161.out) hb); have n2_ := Aside0.mk (blk_below (g := gb162) (o := .cells #[.string ((rd_T42 l0 x21_1).f0), .int .i64 ((rd_T42 l0 x21_1).f1), .int .i64 ((rd_T42 l0 x21_1).f2), .int .i64 ((rd_T42 l0 x21_1).f3), .int .i64 ((rd_T42 l0 x21_1).f4.f0), .int .i64 ((rd_T42 l0 x21_1).f4.f1), .int .i64 ((rd_T42 l0 x21_1).f4.f2), .int .i64 ((rd_T42 l0 x21_1).f5.f0), .int .i64 ((rd_T42 l0 x21_1).f5.f1), .int .i64 ((rd_T42 l0 x21_1).f6), .string ((rd_T42 l0 x21_1).f7)] 48 (0, 0)) (by (with_reducible repeat (first | refine blk_drewN ?_ _ | refine blk_drew ?_ | refine blk_alloc ?_ _)); exact BK162.out) hb); have n3_ := Aside0.mk (below_step (by repeat (first | (with_reducible first | exact HB.out | apply below_alloc | apply pw_below_drewN | apply below_drew1 | refine below_set ?_ GE161.out | refine below_set ?_ GE162.out) | exact HB.out)) hb); clear HO_6; clear BK161; clear BK162; clear HB; have HO_6 := n0_; have BK161 := n1_; have BK162 := n2_; have HB := n3_; clear n0_ n1_ n2_ n3_; (try clear hb); (try clear hb2); (try clear hk); (try clear hi)) | ((with_reducible refine gate_dst (N := 11) rfl ?_); refine box_event ?hg (N := 11) ?hd (cs := #[.int .i64 0, .int .i64 0, .int .i64 0, .int .i64 0]) (t := 36) ?hr ?_; (case hd => rfl); (case hg => rfl); (case hr => first | (go_simp; done) | (go_simp; rfl)); intro gb170 hg w28 hbox hb; have n0_ := Aside0.mk (Kd.R_below (Kd.R_elderB (by (with_reducible repeat (first | apply Kd.R_alloc | apply Kd.R_drewN | apply Kd.R_drew)); exact HO_6.out) gb170 (Nat.le_of_eq hg.symm)) hb); have n1_ := Aside0.mk (blk_below (g := gb161) (o := .cells #[.string ((rd_T42 l0 x21_1).f0), .int .i64 ((rd_T42 l0 x21_1).f1), .int .i64 ((rd_T42 l0 x21_1).f2), .int .i64 ((rd_T42 l0 x21_1).f3), .int .i64 ((rd_T42 l0 x21_1).f4.f0), .int .i64 ((rd_T42 l0 x21_1).f4.f1), .int .i64 ((rd_T42 l0 x21_1).f4.f2), .int .i64 ((rd_T42 l0 x21_1).f5.f0), .int .i64 ((rd_T42 l0 x21_1).f5.f1), .int .i64 ((rd_T42 l0 x21_1).f6), .string ((rd_T42 l0 x21_1).f7)] 42 (0, 0)) (by (with_reducible repeat (first | refine blk_drewN ?_ _ | refine blk_drew ?_ | refine blk_alloc ?_ _)); exact BK161.out) hb); have n2_ := Aside0.mk (blk_below (g := gb162) (o := .cells #[.string ((rd_T42 l0 x21_1).f0), .int .i64 ((rd_T42 l0 x21_1).f1), .int .i64 ((rd_T42 l0 x21_1).f2), .int .i64 ((rd_T42 l0 x21_1).f3), .int .i64 ((rd_T42 l0 x21_1).f4.f0), .int .i64 ((rd_T42 l0 x21_1).f4.f1), .int .i64 ((rd_T42 l0 x21_1).f4.f2), .int .i64 ((rd_T42 l0 x21_1).f5.f0), .int .i64 ((rd_T42 l0 x21_1).f5.f1), .int .i64 ((rd_T42 l0 x21_1).f6), .string ((rd_T42 l0 x21_1).f7)] 48 (0, 0)) (by (with_reducible repeat (first | refine blk_drewN ?_ _ | refine blk_drew ?_ | refine blk_alloc ?_ _)); exact BK162.out) hb); have n3_ := Aside0.mk (below_step (by repeat (first | (with_reducible first | exact HB.out | apply below_alloc | apply pw_below_drewN | apply below_drew1 | refine below_set ?_ GE161.out | refine below_set ?_ GE162.out) | exact HB.out)) hb); have n4_ := Aside0.mk (hbox); have n5_ := Aside0.mk ((by rw [hg]; exact (below_size (by repeat (first | (with_reducible first | exact HB.out | apply below_alloc | apply pw_below_drewN | apply below_drew1 | refine below_set ?_ GE161.out | refine below_set ?_ GE162.out) | exact HB.out))) : w.heap.size ≤ gb170)); have n6_ := Aside0.mk ((by rw [hg]; exact (below_size (by repeat (first | (with_reducible first | exact HB.out | apply below_alloc | apply pw_below_drewN | apply below_drew1 | refine below_set ?_ GE161.out | refine below_set ?_ GE162.out) | exact HB.out))) : w.heap.size ≤ gb170)); have n7_ := Aside0.mk ((by rw [hg]; exact Nat.ne_of_lt (blk_lt (g := gb161) (o := .cells #[.string ((rd_T42 l0 x21_1).f0), .int .i64 ((rd_T42 l0 x21_1).f1), .int .i64 ((rd_T42 l0 x21_1).f2), .int .i64 ((rd_T42 l0 x21_1).f3), .int .i64 ((rd_T42 l0 x21_1).f4.f0), .int .i64 ((rd_T42 l0 x21_1).f4.f1), .int .i64 ((rd_T42 l0 x21_1).f4.f2), .int .i64 ((rd_T42 l0 x21_1).f5.f0), .int .i64 ((rd_T42 l0 x21_1).f5.f1), .int .i64 ((rd_T42 l0 x21_1).f6), .string ((rd_T42 l0 x21_1).f7)] 42 (0, 0)) (by (with_reducible repeat (first | refine blk_drewN ?_ _ | refine blk_drew ?_ | refine blk_alloc ?_ _)); exact BK161.out)) : gb161 ≠ gb170)); have n8_ := Aside0.mk ((by rw [hg]; exact Nat.ne_of_gt (blk_lt (g := gb161) (o := .cells #[.string ((rd_T42 l0 x21_1).f0), .int .i64 ((rd_T42 l0 x21_1).f1), .int .i64 ((rd_T42 l0 x21_1).f2), .int .i64 ((rd_T42 l0 x21_1).f3), .int .i64 ((rd_T42 l0 x21_1).f4.f0), .int .i64 ((rd_T42 l0 x21_1).f4.f1), .int .i64 ((rd_T42 l0 x21_1).f4.f2), .int .i64 ((rd_T42 l0 x21_1).f5.f0), .int .i64 ((rd_T42 l0 x21_1).f5.f1), .int .i64 ((rd_T42 l0 x21_1).f6), .string ((rd_T42 l0 x21_1).f7)] 42 (0, 0)) (by (with_reducible repeat (first | refine blk_drewN ?_ _ | refine blk_drew ?_ | refine blk_alloc ?_ _)); exact BK161.out)) : gb170 ≠ gb161)); have n9_ := Aside0.mk ((by rw [hg]; exact Nat.ne_of_lt (blk_lt (g := gb162) (o := .cells #[.string ((rd_T42 l0 x21_1).f0), .int .i64 ((rd_T42 l0 x21_1).f1), .int .i64 ((rd_T42 l0 x21_1).f2), .int .i64 ((rd_T42 l0 x21_1).f3), .int .i64 ((rd_T42 l0 x21_1).f4.f0), .int .i64 ((rd_T42 l0 x21_1).f4.f1), .int .i64 ((rd_T42 l0 x21_1).f4.f2), .int .i64 ((rd_T42 l0 x21_1).f5.f0), .int .i64 ((rd_T42 l0 x21_1).f5.f1), .int .i64 ((rd_T42 l0 x21_1).f6), .string ((rd_T42 l0 x21_1).f7)] 48 (0, 0)) (by (with_reducible repeat (first | refine blk_drewN ?_ _ | refine blk_drew ?_ | refine blk_alloc ?_ _)); exact BK162.out)) : gb162 ≠ gb170)); have n10_ := Aside0.mk ((by rw [hg]; exact Nat.ne_of_gt (blk_lt (g := gb162) (o := .cells #[.string ((rd_T42 l0 x21_1).f0), .int .i64 ((rd_T42 l0 x21_1).f1), .int .i64 ((rd_T42 l0 x21_1).f2), .int .i64 ((rd_T42 l0 x21_1).f3), .int .i64 ((rd_T42 l0 x21_1).f4.f0), .int .i64 ((rd_T42 l0 x21_1).f4.f1), .int .i64 ((rd_T42 l0 x21_1).f4.f2), .int .i64 ((rd_T42 l0 x21_1).f5.f0), .int .i64 ((rd_T42 l0 x21_1).f5.f1), .int .i64 ((rd_T42 l0 x21_1).f6), .string ((rd_T42 l0 x21_1).f7)] 48 (0, 0)) (by (with_reducible repeat (first | refine blk_drewN ?_ _ | refine blk_drew ?_ | refine blk_alloc ?_ _)); exact BK162.out)) : gb170 ≠ gb162)); clear HO_6; clear BK161; clear BK162; clear HB; have HO_6 := n0_; have BK161 := n1_; have BK162 := n2_; have HB := n3_; have BK170 := n4_; have GW170 := n5_; have GE170 := n6_; have NB161_170 := n7_; have NB170_161 := n8_; have NB162_170 := n9_; have NB170_162 := n10_; clear n0_ n1_ n2_ n3_ n4_ n5_ n6_ n7_ n8_ n9_ n10_; clear hb hbox hg; have hnb29 := NB170_161.out; have hnc29 := NB161_170.out; have hnb30 := NB170_162.out; have hnc30 := NB162_170.out; have hcz31_0 : w28.cell? ⟨gb170, 0, none⟩ = some (.int .i64 0) := (blk_cell BK170.out 0).trans rfl; have hcz31_1 : w28.cell? ⟨gb170, 1, none⟩ = some (.int .i64 0) := (blk_cell BK170.out 1).trans rfl; have hcz31_2 : w28.cell? ⟨gb170, 2, none⟩ = some (.int .i64 0) := (blk_cell BK170.out 2).trans rfl; have hcz31_3 : w28.cell? ⟨gb170, 3, none⟩ = some (.int .i64 0) := (blk_cell BK170.out 3).trans rfl; have hfz31_0 := blk_frozen BK170.out 0; have hfz31_1 := blk_frozen BK170.out 1; have hfz31_2 := blk_frozen BK170.out 2; have hfz31_3 := blk_frozen BK170.out 3) | ((with_reducible refine gate_builtin (b := .append) (xs := #[.tmp 47, .tmp 49]) rfl ?_); at_builtin; refine Kd.R_append k36 (w0 := w) w.heap.size rfl (.tmp 47) (.tmp 49) 28 36 (.agg #[(.int .i64 0), (.int .i64 0), (.int .i64 0), (.int .i64 0)]) 32 rfl Try.underlying28 info36 rfl (by decide) (by omega) u6 x6_2 (⟨t165, t166, t167, t168⟩ : S36) [.int .i64 t165, .int .i64 t166, .int .i64 t167, .int .i64 t168] (fun k_ => k_ ≠ gb170) (fun _ => False) rfl (by first | (go_simp; done) | (go_simp; rfl)) ?aP (fun _ hk => hk.elim) ?aF ?aO ?aB ?aS ?aL ?_; (case aP => exact k36_mkM _ _ _ (⟨t165, t166, t167, t168⟩ : S36)); (case aB => exact (by repeat (first | (with_reducible first | exact HB.out | apply below_alloc | apply pw_below_drewN | apply below_drew1 | refine below_set ?_ GE161.out | refine below_set ?_ GE162.out | refine below_set ?_ GE170.out) | exact HB.out))); (case aF => exact (fun k_ hk => Kd.freshB (g := gb170) (o := .cells #[.int .i64 t165, .int .i64 t166, .int .i64 t167, .int .i64 t168] 36 (0, 0)) (by (with_reducible repeat (first | refine blk_drewN ?_ _ | refine blk_drew ?_ | refine blk_alloc ?_ _)); refine blk_put (cs := #[.int .i64 t165, .int .i64 t166, .int .i64 t167, .int .i64 0]) ?_ 3 _ rfl; (with_reducible repeat (first | refine blk_drewN ?_ _ | refine blk_drew ?_ | refine blk_alloc ?_ _)); refine blk_put (cs := #[.int .i64 t165, .int .i64 t166, .int .i64 0, .int .i64 0]) ?_ 2 _ rfl; (with_reducible repeat (first | refine blk_drewN ?_ _ | refine blk_drew ?_ | refine blk_alloc ?_ _)); refine blk_put (cs := #[.int .i64 t165, .int .i64 0, .int .i64 0, .int .i64 0]) ?_ 1 _ rfl; (with_reducible repeat (first | refine blk_drewN ?_ _ | refine blk_drew ?_ | refine blk_alloc ?_ _)); refine blk_put (cs := #[.int .i64 0, .int .i64 0, .int .i64 0, .int .i64 0]) ?_ 0 _ rfl; (with_reducible repeat (first | refine blk_drewN ?_ _ | refine blk_drew ?_ | refine blk_alloc ?_ _)); exact BK170.out) k_ hk)); (case aO => exact (by (with_reducible repeat (first | apply Kd.R_alloc | apply Kd.R_drewN | apply Kd.R_drew)); exact Kd.R_mono (Kd.R_far (p := ⟨gb170, 3, none⟩) (Kd.R_far (p := ⟨gb170, 2, none⟩) (Kd.R_far (p := ⟨gb170, 1, none⟩) (Kd.R_far (p := ⟨gb170, 0, none⟩) (Kd.R_mono HO_6.out (fun k_ hk => (⟨hk, hk.2⟩ : _ ∧ k_ ≠ gb170))) (fun _ hk => hk.2) (.int .i64 t165)) (fun _ hk => hk.2) (.int .i64 t166)) (fun _ hk => hk.2) (.int .i64 t167)) (fun _ hk => hk.2) (.int .i64 t168)) (fun _ hk => hk.1.2))); (case aS => exact (below_size (by repeat (first | (with_reducible first | exact HB.out | apply below_alloc | apply pw_below_drewN | apply below_drew1 | refine below_set ?_ GE161.out | refine below_set ?_ GE162.out | refine below_set ?_ GE170.out) | exact HB.out)))); (case aL => have := LMc22.out; omega); intro v172 w32 ho hb hg hat; rw [← Ny171.out] at ho; have n0_ := Aside0.mk (blk_grown (g := gb161) (o := .cells #[.string ((rd_T42 l0 x21_1).f0), .int .i64 ((rd_T42 l0 x21_1).f1), .int .i64 ((rd_T42 l0 x21_1).f2), .int .i64 ((rd_T42 l0 x21_1).f3), .int .i64 ((rd_T42 l0 x21_1).f4.f0), .int .i64 ((rd_T42 l0 x21_1).f4.f1), .int .i64 ((rd_T42 l0 x21_1).f4.f2), .int .i64 ((rd_T42 l0 x21_1).f5.f0), .int .i64 ((rd_T42 l0 x21_1).f5.f1), .int .i64 ((rd_T42 l0 x21_1).f6), .string ((rd_T42 l0 x21_1).f7)] 42 (0, 0)) (by (with_reducible repeat (first | refine blk_drewN ?_ _ | refine blk_drew ?_ | refine blk_alloc ?_ _)); refine blk_far ?_ NB161_170.out _; (with_reducible repeat (first | refine blk_drewN ?_ _ | refine blk_drew ?_ | refine blk_alloc ?_ _)); refine blk_far ?_ NB161_170.out _; (with_reducible repeat (first | refine blk_drewN ?_ _ | refine blk_drew ?_ | refine blk_alloc ?_ _)); refine blk_far ?_ NB161_170.out _; (with_reducible repeat (first | refine blk_drewN ?_ _ | refine blk_drew ?_ | refine blk_alloc ?_ _)); refine blk_far ?_ NB161_170.out _; (with_reducible repeat (first | refine blk_drewN ?_ _ | refine blk_drew ?_ | refine blk_alloc ?_ _)); exact BK161.out) hg (Kd.R_ne HO_6.out BK161.out (by decide))); have n1_ := Aside0.mk (blk_grown (g := gb162) (o := .cells #[.string ((rd_T42 l0 x21_1).f0), .int .i64 ((rd_T42 l0 x21_1).f1), .int .i64 ((rd_T42 l0 x21_1).f2), .int .i64 ((rd_T42 l0 x21_1).f3), .int .i64 ((rd_T42 l0 x21_1).f4.f0), .int .i64 ((rd_T42 l0 x21_1).f4.f1), .int .i64 ((rd_T42 l0 x21_1).f4.f2), .int .i64 ((rd_T42 l0 x21_1).f5.f0), .int .i64 ((rd_T42 l0 x21_1).f5.f1), .int .i64 ((rd_T42 l0 x21_1).f6), .string ((rd_T42 l0 x21_1).f7)] 48 (0, 0)) (by (with_reducible repeat (first | refine blk_drewN ?_ _ | refine blk_drew ?_ | refine blk_alloc ?_ _)); refine blk_far ?_ NB162_170.out _; (with_reducible repeat (first | refine blk_drewN ?_ _ | refine blk_drew ?_ | refine blk_alloc ?_ _)); refine blk_far ?_ NB162_170.out _; (with_reducible repeat (first | refine blk_drewN ?_ _ | refine blk_drew ?_ | refine blk_alloc ?_ _)); refine blk_far ?_ NB162_170.out _; (with_reducible repeat (first | refine blk_drewN ?_ _ | refine blk_drew ?_ | refine blk_alloc ?_ _)); refine blk_far ?_ NB162_170.out _; (with_reducible repeat (first | refine blk_drewN ?_ _ | refine blk_drew ?_ | refine blk_alloc ?_ _)); exact BK162.out) hg (Kd.R_ne HO_6.out BK162.out (by decide))); have n2_ := Aside0.mk (blk_grown (g := gb170) (o := .cells #[.int .i64 t165, .int .i64 t166, .int .i64 t167, .int .i64 t168] 36 (0, 0)) (by (with_reducible repeat (first | refine blk_drewN ?_ _ | refine blk_drew ?_ | refine blk_alloc ?_ _)); refine blk_put (cs := #[.int .i64 t165, .int .i64 t166, .int .i64 t167, .int .i64 0]) ?_ 3 _ rfl; (with_reducible repeat (first | refine blk_drewN ?_ _ | refine blk_drew ?_ | refine blk_alloc ?_ _)); refine blk_put (cs := #[.int .i64 t165, .int .i64 t166, .int .i64 0, .int .i64 0]) ?_ 2 _ rfl; (with_reducible repeat (first | refine blk_drewN ?_ _ | refine blk_drew ?_ | refine blk_alloc ?_ _)); refine blk_put (cs := #[.int .i64 t165, .int .i64 0, .int .i64 0, .int .i64 0]) ?_ 1 _ rfl; (with_reducible repeat (first | refine blk_drewN ?_ _ | refine blk_drew ?_ | refine blk_alloc ?_ _)); refine blk_put (cs := #[.int .i64 0, .int .i64 0, .int .i64 0, .int .i64 0]) ?_ 0 _ rfl; (with_reducible repeat (first | refine blk_drewN ?_ _ | refine blk_drew ?_ | refine blk_alloc ?_ _)); exact BK170.out) hg (Kd.R_away HO_6.out (fun _ hk => hk.2))); have n3_ := Aside0.mk (hb); have n4_ := Aside0.mk (ho); clear BK161; clear BK162; clear BK170; clear HB; clear HO_6; have BK161 := n0_; have BK162 := n1_; have BK170 := n2_; have HB := n3_; have HO173 := n4_; clear n0_ n1_ n2_ n3_ n4_; clear ho hb hg hat))
                      go_roundg k2
                      case measure => have := HK1.out; have := HK2.out; omega
                      case rel => exact ⟨(y171), (wrap64 (x10_2 + 1)), (by first | rfl | (simp; done) | (simp [*]; done)), H', ⟨by have := HK1.out; have := HK2.out; omega⟩, ⟨by (with_reducible repeat (first | apply Kd.R_alloc | apply Kd.R_drewN | apply Kd.R_drew)); exact Kd.R_mono HO173.out (fun _ hk => trivial)⟩, ⟨by (with_reducible repeat (first | refine blk_drewN ?_ _ | refine blk_drew ?_ | refine blk_alloc ?_ _)); exact BK161.out⟩, ⟨by (with_reducible repeat (first | refine blk_drewN ?_ _ | refine blk_drew ?_ | refine blk_alloc ?_ _)); exact BK162.out⟩, ⟨by repeat (first | (with_reducible first | exact HB.out | apply below_alloc | apply pw_below_drewN | apply below_drew1 | refine below_set ?_ GE161.out | refine below_set ?_ GE162.out | refine below_set ?_ GE170.out) | exact HB.out)⟩⟩
                    · rw [if_neg c22] at H
                      exact absurd H (by simp)
                  · replace c21 := Bool.eq_false_iff.mpr c21
                    subst c21
                    have H1 : (expand_From.l1 k2 l0 ji4 ji5 x6_2 x21_1 (wrap64 (x10_2 + 1)) l0 (l0.length : Int) x21_1 ((rd_T42 l0 x21_1).f0) ((rd_T42 l0 x21_1).f1) ((rd_T42 l0 x21_1).f2) ((rd_T42 l0 x21_1).f3) ((rd_T42 l0 x21_1).f4.f0) ((rd_T42 l0 x21_1).f4.f1) ((rd_T42 l0 x21_1).f4.f2) ((rd_T42 l0 x21_1).f5.f0) ((rd_T42 l0 x21_1).f5.f1) ((rd_T42 l0 x21_1).f6) ((rd_T42 l0 x21_1).f7)) = some r := by rw [if_neg (show ¬ (false = true) by decide)] at H; exact H
                    clear H
                    have H := H1
                    clear H1
                    have H' := Aside0.mk H
                    clear H
                    have hnb33 := NB162_161.out
                    have hnc33 := NB161_162.out
                    have hcz34_0 : wr.cell? ⟨gb162, 0, none⟩ = some (.string ((rd_T42 l0 x21_1).f0)) := (blk_cell BK162.out 0).trans rfl
                    have hcz34_1 : wr.cell? ⟨gb162, 1, none⟩ = some (.int .i64 ((rd_T42 l0 x21_1).f1)) := (blk_cell BK162.out 1).trans rfl
                    have hcz34_2 : wr.cell? ⟨gb162, 2, none⟩ = some (.int .i64 ((rd_T42 l0 x21_1).f2)) := (blk_cell BK162.out 2).trans rfl
                    have hcz34_3 : wr.cell? ⟨gb162, 3, none⟩ = some (.int .i64 ((rd_T42 l0 x21_1).f3)) := (blk_cell BK162.out 3).trans rfl
                    have hcz34_4 : wr.cell? ⟨gb162, 4, none⟩ = some (.int .i64 ((rd_T42 l0 x21_1).f4.f0)) := (blk_cell BK162.out 4).trans rfl
                    have hcz34_5 : wr.cell? ⟨gb162, 5, none⟩ = some (.int .i64 ((rd_T42 l0 x21_1).f4.f1)) := (blk_cell BK162.out 5).trans rfl
                    have hcz34_6 : wr.cell? ⟨gb162, 6, none⟩ = some (.int .i64 ((rd_T42 l0 x21_1).f4.f2)) := (blk_cell BK162.out 6).trans rfl
                    have hcz34_7 : wr.cell? ⟨gb162, 7, none⟩ = some (.int .i64 ((rd_T42 l0 x21_1).f5.f0)) := (blk_cell BK162.out 7).trans rfl
                    have hcz34_8 : wr.cell? ⟨gb162, 8, none⟩ = some (.int .i64 ((rd_T42 l0 x21_1).f5.f1)) := (blk_cell BK162.out 8).trans rfl
                    have hcz34_9 : wr.cell? ⟨gb162, 9, none⟩ = some (.int .i64 ((rd_T42 l0 x21_1).f6)) := (blk_cell BK162.out 9).trans rfl
                    have hcz34_10 : wr.cell? ⟨gb162, 10, none⟩ = some (.string ((rd_T42 l0 x21_1).f7)) := (blk_cell BK162.out 10).trans rfl
                    have hfz34_0 := blk_frozen BK162.out 0
                    have hfz34_1 := blk_frozen BK162.out 1
                    have hfz34_2 := blk_frozen BK162.out 2
                    have hfz34_3 := blk_frozen BK162.out 3
                    have hfz34_4 := blk_frozen BK162.out 4
                    have hfz34_5 := blk_frozen BK162.out 5
                    have hfz34_6 := blk_frozen BK162.out 6
                    have hfz34_7 := blk_frozen BK162.out 7
                    have hfz34_8 := blk_frozen BK162.out 8
                    have hfz34_9 := blk_frozen BK162.out 9
                    have hfz34_10 := blk_frozen BK162.out 10
                    go_wp2_with (first | ((with_reducible refine gate_callee (f := 18) rfl ?_); refine goesL_ (some 34) rfl rfl Try.func18 (by kernel_rfl) rfl #[.agg #[.string ((rd_T42 l0 x21_1).f0), .int .i64 ((rd_T42 l0 x21_1).f1), .int .i64 ((rd_T42 l0 x21_1).f2), .int .i64 ((rd_T42 l0 x21_1).f3), .int .i64 ((rd_T42 l0 x21_1).f4.f0), .int .i64 ((rd_T42 l0 x21_1).f4.f1), .int .i64 ((rd_T42 l0 x21_1).f4.f2), .int .i64 ((rd_T42 l0 x21_1).f5.f0), .int .i64 ((rd_T42 l0 x21_1).f5.f1), .int .i64 ((rd_T42 l0 x21_1).f6), .string ((rd_T42 l0 x21_1).f7)]] rfl (by (try simp only [List.map_toArray, List.map_cons, List.map_nil]); first | done | rfl | (simp only [List.length_drop, List.length_take]; rfl)) ?_; (with_reducible refine (expand_lasting_last.calls ((rd_T42 l0 x21_1).f0) ((rd_T42 l0 x21_1).f1) ((rd_T42 l0 x21_1).f2) ((rd_T42 l0 x21_1).f3) ((rd_T42 l0 x21_1).f4.f0) ((rd_T42 l0 x21_1).f4.f1) ((rd_T42 l0 x21_1).f4.f2) ((rd_T42 l0 x21_1).f5.f0) ((rd_T42 l0 x21_1).f5.f1) ((rd_T42 l0 x21_1).f6) ((rd_T42 l0 x21_1).f7) t164 _ A17.out).mono ?_); rintro e w35 ⟨rfl, hb⟩; refine ⟨_, rfl, ?_⟩; have n0_ := Aside0.mk (Kd.R_below (by (with_reducible repeat (first | apply Kd.R_alloc | apply Kd.R_drewN | apply Kd.R_drew)); exact HO_6.out) hb); have n1_ := Aside0.mk (blk_below (g := gb161) (o := .cells #[.string ((rd_T42 l0 x21_1).f0), .int .i64 ((rd_T42 l0 x21_1).f1), .int .i64 ((rd_T42 l0 x21_1).f2), .int .i64 ((rd_T42 l0 x21_1).f3), .int .i64 ((rd_T42 l0 x21_1).f4.f0), .int .i64 ((rd_T42 l0 x21_1).f4.f1), .int .i64 ((rd_T42 l0 x21_1).f4.f2), .int .i64 ((rd_T42 l0 x21_1).f5.f0), .int .i64 ((rd_T42 l0 x21_1).f5.f1), .int .i64 ((rd_T42 l0 x21_1).f6), .string ((rd_T42 l0 x21_1).f7)] 42 (0, 0)) (by (with_reducible repeat (first | refine blk_drewN ?_ _ | refine blk_drew ?_ | refine blk_alloc ?_ _)); exact BK161.out) hb); have n2_ := Aside0.mk (blk_below (g := gb162) (o := .cells #[.string ((rd_T42 l0 x21_1).f0), .int .i64 ((rd_T42 l0 x21_1).f1), .int .i64 ((rd_T42 l0 x21_1).f2), .int .i64 ((rd_T42 l0 x21_1).f3), .int .i64 ((rd_T42 l0 x21_1).f4.f0), .int .i64 ((rd_T42 l0 x21_1).f4.f1), .int .i64 ((rd_T42 l0 x21_1).f4.f2), .int .i64 ((rd_T42 l0 x21_1).f5.f0), .int .i64 ((rd_T42 l0 x21_1).f5.f1), .int .i64 ((rd_T42 l0 x21_1).f6), .string ((rd_T42 l0 x21_1).f7)] 48 (0, 0)) (by (with_reducible repeat (first | refine blk_drewN ?_ _ | refine blk_drew ?_ | refine blk_alloc ?_ _)); exact BK162.out) hb); have n3_ := Aside0.mk (below_step (by repeat (first | (with_reducible first | exact HB.out | apply below_alloc | apply pw_below_drewN | apply below_drew1 | refine below_set ?_ GE161.out | refine below_set ?_ GE162.out) | exact HB.out)) hb); clear HO_6; clear BK161; clear BK162; clear HB; have HO_6 := n0_; have BK161 := n1_; have BK162 := n2_; have HB := n3_; clear n0_ n1_ n2_ n3_; (try clear hb); (try clear hb2); (try clear hk); (try clear hi); have hcz36_0 : w35.cell? ⟨gb162, 0, none⟩ = some (.string ((rd_T42 l0 x21_1).f0)) := (blk_cell BK162.out 0).trans rfl; have hcz36_1 : w35.cell? ⟨gb162, 1, none⟩ = some (.int .i64 ((rd_T42 l0 x21_1).f1)) := (blk_cell BK162.out 1).trans rfl; have hcz36_2 : w35.cell? ⟨gb162, 2, none⟩ = some (.int .i64 ((rd_T42 l0 x21_1).f2)) := (blk_cell BK162.out 2).trans rfl; have hcz36_3 : w35.cell? ⟨gb162, 3, none⟩ = some (.int .i64 ((rd_T42 l0 x21_1).f3)) := (blk_cell BK162.out 3).trans rfl; have hcz36_4 : w35.cell? ⟨gb162, 4, none⟩ = some (.int .i64 ((rd_T42 l0 x21_1).f4.f0)) := (blk_cell BK162.out 4).trans rfl; have hcz36_5 : w35.cell? ⟨gb162, 5, none⟩ = some (.int .i64 ((rd_T42 l0 x21_1).f4.f1)) := (blk_cell BK162.out 5).trans rfl; have hcz36_6 : w35.cell? ⟨gb162, 6, none⟩ = some (.int .i64 ((rd_T42 l0 x21_1).f4.f2)) := (blk_cell BK162.out 6).trans rfl; have hcz36_7 : w35.cell? ⟨gb162, 7, none⟩ = some (.int .i64 ((rd_T42 l0 x21_1).f5.f0)) := (blk_cell BK162.out 7).trans rfl; have hcz36_8 : w35.cell? ⟨gb162, 8, none⟩ = some (.int .i64 ((rd_T42 l0 x21_1).f5.f1)) := (blk_cell BK162.out 8).trans rfl; have hcz36_9 : w35.cell? ⟨gb162, 9, none⟩ = some (.int .i64 ((rd_T42 l0 x21_1).f6)) := (blk_cell BK162.out 9).trans rfl; have hcz36_10 : w35.cell? ⟨gb162, 10, none⟩ = some (.string ((rd_T42 l0 x21_1).f7)) := (blk_cell BK162.out 10).trans rfl; have hfz36_0 := blk_frozen BK162.out 0; have hfz36_1 := blk_frozen BK162.out 1; have hfz36_2 := blk_frozen BK162.out 2; have hfz36_3 := blk_frozen BK162.out 3; have hfz36_4 := blk_frozen BK162.out 4; have hfz36_5 := blk_frozen BK162.out 5; have hfz36_6 := blk_frozen BK162.out 6; have hfz36_7 := blk_frozen BK162.out 7; have hfz36_8 := blk_frozen BK162.out 8; have hfz36_9 := blk_frozen BK162.out 9; have hfz36_10 := blk_frozen BK162.out 10) | ((with_reducible refine gate_callee (f := 19) rfl ?_); refine goesL_ (some 43) rfl rfl Try.func19 (by kernel_rfl) rfl #[.agg #[.string ((rd_T42 l0 x21_1).f0), .int .i64 ((rd_T42 l0 x21_1).f1), .int .i64 ((rd_T42 l0 x21_1).f2), .int .i64 ((rd_T42 l0 x21_1).f3), .int .i64 ((rd_T42 l0 x21_1).f4.f0), .int .i64 ((rd_T42 l0 x21_1).f4.f1), .int .i64 ((rd_T42 l0 x21_1).f4.f2), .int .i64 ((rd_T42 l0 x21_1).f5.f0), .int .i64 ((rd_T42 l0 x21_1).f5.f1), .int .i64 ((rd_T42 l0 x21_1).f6), .string ((rd_T42 l0 x21_1).f7)], .int .i64 x21_1, .int .i64 x10_2] rfl (by (try simp only [List.map_toArray, List.map_cons, List.map_nil]); first | done | rfl | (simp only [List.length_drop, List.length_take]; rfl)) ?_; (with_reducible refine (expand_lasting_fire.calls k2 ((rd_T42 l0 x21_1).f0) ((rd_T42 l0 x21_1).f1) ((rd_T42 l0 x21_1).f2) ((rd_T42 l0 x21_1).f3) ((rd_T42 l0 x21_1).f4.f0) ((rd_T42 l0 x21_1).f4.f1) ((rd_T42 l0 x21_1).f4.f2) ((rd_T42 l0 x21_1).f5.f0) ((rd_T42 l0 x21_1).f5.f1) ((rd_T42 l0 x21_1).f6) ((rd_T42 l0 x21_1).f7) x21_1 x10_2 t165 t166 t167 t168 false _ A20.out).mono ?_); rintro e w37 ⟨rfl, hb⟩; refine ⟨_, rfl, ?_⟩; have n0_ := Aside0.mk (Kd.R_below (by (with_reducible repeat (first | apply Kd.R_alloc | apply Kd.R_drewN | apply Kd.R_drew)); exact HO_6.out) hb); have n1_ := Aside0.mk (blk_below (g := gb161) (o := .cells #[.string ((rd_T42 l0 x21_1).f0), .int .i64 ((rd_T42 l0 x21_1).f1), .int .i64 ((rd_T42 l0 x21_1).f2), .int .i64 ((rd_T42 l0 x21_1).f3), .int .i64 ((rd_T42 l0 x21_1).f4.f0), .int .i64 ((rd_T42 l0 x21_1).f4.f1), .int .i64 ((rd_T42 l0 x21_1).f4.f2), .int .i64 ((rd_T42 l0 x21_1).f5.f0), .int .i64 ((rd_T42 l0 x21_1).f5.f1), .int .i64 ((rd_T42 l0 x21_1).f6), .string ((rd_T42 l0 x21_1).f7)] 42 (0, 0)) (by (with_reducible repeat (first | refine blk_drewN ?_ _ | refine blk_drew ?_ | refine blk_alloc ?_ _)); exact BK161.out) hb); have n2_ := Aside0.mk (blk_below (g := gb162) (o := .cells #[.string ((rd_T42 l0 x21_1).f0), .int .i64 ((rd_T42 l0 x21_1).f1), .int .i64 ((rd_T42 l0 x21_1).f2), .int .i64 ((rd_T42 l0 x21_1).f3), .int .i64 ((rd_T42 l0 x21_1).f4.f0), .int .i64 ((rd_T42 l0 x21_1).f4.f1), .int .i64 ((rd_T42 l0 x21_1).f4.f2), .int .i64 ((rd_T42 l0 x21_1).f5.f0), .int .i64 ((rd_T42 l0 x21_1).f5.f1), .int .i64 ((rd_T42 l0 x21_1).f6), .string ((rd_T42 l0 x21_1).f7)] 48 (0, 0)) (by (with_reducible repeat (first | refine blk_drewN ?_ _ | refine blk_drew ?_ | refine blk_alloc ?_ _)); exact BK162.out) hb); have n3_ := Aside0.mk (below_step (by repeat (first | (with_reducible first | exact HB.out | apply below_alloc | apply pw_below_drewN | apply below_drew1 | refine below_set ?_ GE161.out | refine below_set ?_ GE162.out) | exact HB.out)) hb); clear HO_6; clear BK161; clear BK162; clear HB; have HO_6 := n0_; have BK161 := n1_; have BK162 := n2_; have HB := n3_; clear n0_ n1_ n2_ n3_; (try clear hb); (try clear hb2); (try clear hk); (try clear hi)) | ((with_reducible refine gate_dst (N := 11) rfl ?_); refine box_event ?hg (N := 11) ?hd (cs := #[.int .i64 0, .int .i64 0, .int .i64 0, .int .i64 0]) (t := 36) ?hr ?_; (case hd => rfl); (case hg => rfl); (case hr => first | (go_simp; done) | (go_simp; rfl)); intro gb170 hg w38 hbox hb; have n0_ := Aside0.mk (Kd.R_below (Kd.R_elderB (by (with_reducible repeat (first | apply Kd.R_alloc | apply Kd.R_drewN | apply Kd.R_drew)); exact HO_6.out) gb170 (Nat.le_of_eq hg.symm)) hb); have n1_ := Aside0.mk (blk_below (g := gb161) (o := .cells #[.string ((rd_T42 l0 x21_1).f0), .int .i64 ((rd_T42 l0 x21_1).f1), .int .i64 ((rd_T42 l0 x21_1).f2), .int .i64 ((rd_T42 l0 x21_1).f3), .int .i64 ((rd_T42 l0 x21_1).f4.f0), .int .i64 ((rd_T42 l0 x21_1).f4.f1), .int .i64 ((rd_T42 l0 x21_1).f4.f2), .int .i64 ((rd_T42 l0 x21_1).f5.f0), .int .i64 ((rd_T42 l0 x21_1).f5.f1), .int .i64 ((rd_T42 l0 x21_1).f6), .string ((rd_T42 l0 x21_1).f7)] 42 (0, 0)) (by (with_reducible repeat (first | refine blk_drewN ?_ _ | refine blk_drew ?_ | refine blk_alloc ?_ _)); exact BK161.out) hb); have n2_ := Aside0.mk (blk_below (g := gb162) (o := .cells #[.string ((rd_T42 l0 x21_1).f0), .int .i64 ((rd_T42 l0 x21_1).f1), .int .i64 ((rd_T42 l0 x21_1).f2), .int .i64 ((rd_T42 l0 x21_1).f3), .int .i64 ((rd_T42 l0 x21_1).f4.f0), .int .i64 ((rd_T42 l0 x21_1).f4.f1), .int .i64 ((rd_T42 l0 x21_1).f4.f2), .int .i64 ((rd_T42 l0 x21_1).f5.f0), .int .i64 ((rd_T42 l0 x21_1).f5.f1), .int .i64 ((rd_T42 l0 x21_1).f6), .string ((rd_T42 l0 x21_1).f7)] 48 (0, 0)) (by (with_reducible repeat (first | refine blk_drewN ?_ _ | refine blk_drew ?_ | refine blk_alloc ?_ _)); exact BK162.out) hb); have n3_ := Aside0.mk (below_step (by repeat (first | (with_reducible first | exact HB.out | apply below_alloc | apply pw_below_drewN | apply below_drew1 | refine below_set ?_ GE161.out | refine below_set ?_ GE162.out) | exact HB.out)) hb); have n4_ := Aside0.mk (hbox); have n5_ := Aside0.mk ((by rw [hg]; exact (below_size (by repeat (first | (with_reducible first | exact HB.out | apply below_alloc | apply pw_below_drewN | apply below_drew1 | refine below_set ?_ GE161.out | refine below_set ?_ GE162.out) | exact HB.out))) : w.heap.size ≤ gb170)); have n6_ := Aside0.mk ((by rw [hg]; exact (below_size (by repeat (first | (with_reducible first | exact HB.out | apply below_alloc | apply pw_below_drewN | apply below_drew1 | refine below_set ?_ GE161.out | refine below_set ?_ GE162.out) | exact HB.out))) : w.heap.size ≤ gb170)); have n7_ := Aside0.mk ((by rw [hg]; exact Nat.ne_of_lt (blk_lt (g := gb161) (o := .cells #[.string ((rd_T42 l0 x21_1).f0), .int .i64 ((rd_T42 l0 x21_1).f1), .int .i64 ((rd_T42 l0 x21_1).f2), .int .i64 ((rd_T42 l0 x21_1).f3), .int .i64 ((rd_T42 l0 x21_1).f4.f0), .int .i64 ((rd_T42 l0 x21_1).f4.f1), .int .i64 ((rd_T42 l0 x21_1).f4.f2), .int .i64 ((rd_T42 l0 x21_1).f5.f0), .int .i64 ((rd_T42 l0 x21_1).f5.f1), .int .i64 ((rd_T42 l0 x21_1).f6), .string ((rd_T42 l0 x21_1).f7)] 42 (0, 0)) (by (with_reducible repeat (first | refine blk_drewN ?_ _ | refine blk_drew ?_ | refine blk_alloc ?_ _)); exact BK161.out)) : gb161 ≠ gb170)); have n8_ := Aside0.mk ((by rw [hg]; exact Nat.ne_of_gt (blk_lt (g := gb161) (o := .cells #[.string ((rd_T42 l0 x21_1).f0), .int .i64 ((rd_T42 l0 x21_1).f1), .int .i64 ((rd_T42 l0 x21_1).f2), .int .i64 ((rd_T42 l0 x21_1).f3), .int .i64 ((rd_T42 l0 x21_1).f4.f0), .int .i64 ((rd_T42 l0 x21_1).f4.f1), .int .i64 ((rd_T42 l0 x21_1).f4.f2), .int .i64 ((rd_T42 l0 x21_1).f5.f0), .int .i64 ((rd_T42 l0 x21_1).f5.f1), .int .i64 ((rd_T42 l0 x21_1).f6), .string ((rd_T42 l0 x21_1).f7)] 42 (0, 0)) (by (with_reducible repeat (first | refine blk_drewN ?_ _ | refine blk_drew ?_ | refine blk_alloc ?_ _)); exact BK161.out)) : gb170 ≠ gb161)); have n9_ := Aside0.mk ((by rw [hg]; exact Nat.ne_of_lt (blk_lt (g := gb162) (o := .cells #[.string ((rd_T42 l0 x21_1).f0), .int .i64 ((rd_T42 l0 x21_1).f1), .int .i64 ((rd_T42 l0 x21_1).f2), .int .i64 ((rd_T42 l0 x21_1).f3), .int .i64 ((rd_T42 l0 x21_1).f4.f0), .int .i64 ((rd_T42 l0 x21_1).f4.f1), .int .i64 ((rd_T42 l0 x21_1).f4.f2), .int .i64 ((rd_T42 l0 x21_1).f5.f0), .int .i64 ((rd_T42 l0 x21_1).f5.f1), .int .i64 ((rd_T42 l0 x21_1).f6), .string ((rd_T42 l0 x21_1).f7)] 48 (0, 0)) (by (with_reducible repeat (first | refine blk_drewN ?_ _ | refine blk_drew ?_ | refine blk_alloc ?_ _)); exact BK162.out)) : gb162 ≠ gb170)); have n10_ := Aside0.mk ((by rw [hg]; exact Nat.ne_of_gt (blk_lt (g := gb162) (o := .cells #[.string ((rd_T42 l0 x21_1).f0), .int .i64 ((rd_T42 l0 x21_1).f1), .int .i64 ((rd_T42 l0 x21_1).f2), .int .i64 ((rd_T42 l0 x21_1).f3), .int .i64 ((rd_T42 l0 x21_1).f4.f0), .int .i64 ((rd_T42 l0 x21_1).f4.f1), .int .i64 ((rd_T42 l0 x21_1).f4.f2), .int .i64 ((rd_T42 l0 x21_1).f5.f0), .int .i64 ((rd_T42 l0 x21_1).f5.f1), .int .i64 ((rd_T42 l0 x21_1).f6), .string ((rd_T42 l0 x21_1).f7)] 48 (0, 0)) (by (with_reducible repeat (first | refine blk_drewN ?_ _ | refine blk_drew ?_ | refine blk_alloc ?_ _)); exact BK162.out)) : gb170 ≠ gb162)); clear HO_6; clear BK161; clear BK162; clear HB; have HO_6 := n0_; have BK161 := n1_; have BK162 := n2_; have HB := n3_; have BK170 := n4_; have GW170 := n5_; have GE170 := n6_; have NB161_170 := n7_; have NB170_161 := n8_; have NB162_170 := n9_; have NB170_162 := n10_; clear n0_ n1_ n2_ n3_ n4_ n5_ n6_ n7_ n8_ n9_ n10_; clear hb hbox hg; have hnb39 := NB170_161.out; have hnc39 := NB161_170.out; have hnb40 := NB170_162.out; have hnc40 := NB162_170.out; have hcz41_0 : w38.cell? ⟨gb170, 0, none⟩ = some (.int .i64 0) := (blk_cell BK170.out 0).trans rfl; have hcz41_1 : w38.cell? ⟨gb170, 1, none⟩ = some (.int .i64 0) := (blk_cell BK170.out 1).trans rfl; have hcz41_2 : w38.cell? ⟨gb170, 2, none⟩ = some (.int .i64 0) := (blk_cell BK170.out 2).trans rfl; have hcz41_3 : w38.cell? ⟨gb170, 3, none⟩ = some (.int .i64 0) := (blk_cell BK170.out 3).trans rfl; have hfz41_0 := blk_frozen BK170.out 0; have hfz41_1 := blk_frozen BK170.out 1; have hfz41_2 := blk_frozen BK170.out 2; have hfz41_3 := blk_frozen BK170.out 3))
                    go_roundg k2
                    case measure => have := HK1.out; have := HK2.out; omega
                    case rel => exact ⟨(x6_2), (wrap64 (x10_2 + 1)), (by first | rfl | (simp; done) | (simp [*]; done)), H', ⟨by have := HK1.out; have := HK2.out; omega⟩, ⟨by (with_reducible repeat (first | apply Kd.R_alloc | apply Kd.R_drewN | apply Kd.R_drew)); exact Kd.R_mono (Kd.R_far (p := ⟨gb170, 3, none⟩) (Kd.R_far (p := ⟨gb170, 2, none⟩) (Kd.R_far (p := ⟨gb170, 1, none⟩) (Kd.R_far (p := ⟨gb170, 0, none⟩) (Kd.R_mono HO_6.out (fun k_ hk => (⟨hk, hk.2⟩ : _ ∧ k_ ≠ gb170))) (fun _ hk => hk.2) (.int .i64 t165)) (fun _ hk => hk.2) (.int .i64 t166)) (fun _ hk => hk.2) (.int .i64 t167)) (fun _ hk => hk.2) (.int .i64 t168)) (fun _ hk => trivial)⟩, ⟨by (with_reducible repeat (first | refine blk_drewN ?_ _ | refine blk_drew ?_ | refine blk_alloc ?_ _)); refine blk_far ?_ NB161_170.out _; (with_reducible repeat (first | refine blk_drewN ?_ _ | refine blk_drew ?_ | refine blk_alloc ?_ _)); refine blk_far ?_ NB161_170.out _; (with_reducible repeat (first | refine blk_drewN ?_ _ | refine blk_drew ?_ | refine blk_alloc ?_ _)); refine blk_far ?_ NB161_170.out _; (with_reducible repeat (first | refine blk_drewN ?_ _ | refine blk_drew ?_ | refine blk_alloc ?_ _)); refine blk_far ?_ NB161_170.out _; (with_reducible repeat (first | refine blk_drewN ?_ _ | refine blk_drew ?_ | refine blk_alloc ?_ _)); exact BK161.out⟩, ⟨by (with_reducible repeat (first | refine blk_drewN ?_ _ | refine blk_drew ?_ | refine blk_alloc ?_ _)); refine blk_far ?_ NB162_170.out _; (with_reducible repeat (first | refine blk_drewN ?_ _ | refine blk_drew ?_ | refine blk_alloc ?_ _)); refine blk_far ?_ NB162_170.out _; (with_reducible repeat (first | refine blk_drewN ?_ _ | refine blk_drew ?_ | refine blk_alloc ?_ _)); refine blk_far ?_ NB162_170.out _; (with_reducible repeat (first | refine blk_drewN ?_ _ | refine blk_drew ?_ | refine blk_alloc ?_ _)); refine blk_far ?_ NB162_170.out _; (with_reducible repeat (first | refine blk_drewN ?_ _ | refine blk_drew ?_ | refine blk_alloc ?_ _)); exact BK162.out⟩, ⟨by repeat (first | (with_reducible first | exact HB.out | apply below_alloc | apply pw_below_drewN | apply below_drew1 | refine below_set ?_ GE161.out | refine below_set ?_ GE162.out | refine below_set ?_ GE170.out) | exact HB.out)⟩⟩
                · rw [if_neg c19] at H
                  have c19b0 : decide (x10_2 ≤ (ji18)) = false := decide_eq_false c19
                  clear c19
                  have H' := Aside0.mk H
                  clear H
                  have hnb42 := NB162_161.out
                  have hnc42 := NB161_162.out
                  have hcz43_0 : wr.cell? ⟨gb162, 0, none⟩ = some (.string ((rd_T42 l0 x21_1).f0)) := (blk_cell BK162.out 0).trans rfl
                  have hcz43_1 : wr.cell? ⟨gb162, 1, none⟩ = some (.int .i64 ((rd_T42 l0 x21_1).f1)) := (blk_cell BK162.out 1).trans rfl
                  have hcz43_2 : wr.cell? ⟨gb162, 2, none⟩ = some (.int .i64 ((rd_T42 l0 x21_1).f2)) := (blk_cell BK162.out 2).trans rfl
                  have hcz43_3 : wr.cell? ⟨gb162, 3, none⟩ = some (.int .i64 ((rd_T42 l0 x21_1).f3)) := (blk_cell BK162.out 3).trans rfl
                  have hcz43_4 : wr.cell? ⟨gb162, 4, none⟩ = some (.int .i64 ((rd_T42 l0 x21_1).f4.f0)) := (blk_cell BK162.out 4).trans rfl
                  have hcz43_5 : wr.cell? ⟨gb162, 5, none⟩ = some (.int .i64 ((rd_T42 l0 x21_1).f4.f1)) := (blk_cell BK162.out 5).trans rfl
                  have hcz43_6 : wr.cell? ⟨gb162, 6, none⟩ = some (.int .i64 ((rd_T42 l0 x21_1).f4.f2)) := (blk_cell BK162.out 6).trans rfl
                  have hcz43_7 : wr.cell? ⟨gb162, 7, none⟩ = some (.int .i64 ((rd_T42 l0 x21_1).f5.f0)) := (blk_cell BK162.out 7).trans rfl
                  have hcz43_8 : wr.cell? ⟨gb162, 8, none⟩ = some (.int .i64 ((rd_T42 l0 x21_1).f5.f1)) := (blk_cell BK162.out 8).trans rfl
                  have hcz43_9 : wr.cell? ⟨gb162, 9, none⟩ = some (.int .i64 ((rd_T42 l0 x21_1).f6)) := (blk_cell BK162.out 9).trans rfl
                  have hcz43_10 : wr.cell? ⟨gb162, 10, none⟩ = some (.string ((rd_T42 l0 x21_1).f7)) := (blk_cell BK162.out 10).trans rfl
                  have hfz43_0 := blk_frozen BK162.out 0
                  have hfz43_1 := blk_frozen BK162.out 1
                  have hfz43_2 := blk_frozen BK162.out 2
                  have hfz43_3 := blk_frozen BK162.out 3
                  have hfz43_4 := blk_frozen BK162.out 4
                  have hfz43_5 := blk_frozen BK162.out 5
                  have hfz43_6 := blk_frozen BK162.out 6
                  have hfz43_7 := blk_frozen BK162.out 7
                  have hfz43_8 := blk_frozen BK162.out 8
                  have hfz43_9 := blk_frozen BK162.out 9
                  have hfz43_10 := blk_frozen BK162.out 10
                  go_wp2_with (first | ((with_reducible refine gate_callee (f := 18) rfl ?_); refine goesL_ (some 34) rfl rfl Try.func18 (by kernel_rfl) rfl #[.agg #[.string ((rd_T42 l0 x21_1).f0), .int .i64 ((rd_T42 l0 x21_1).f1), .int .i64 ((rd_T42 l0 x21_1).f2), .int .i64 ((rd_T42 l0 x21_1).f3), .int .i64 ((rd_T42 l0 x21_1).f4.f0), .int .i64 ((rd_T42 l0 x21_1).f4.f1), .int .i64 ((rd_T42 l0 x21_1).f4.f2), .int .i64 ((rd_T42 l0 x21_1).f5.f0), .int .i64 ((rd_T42 l0 x21_1).f5.f1), .int .i64 ((rd_T42 l0 x21_1).f6), .string ((rd_T42 l0 x21_1).f7)]] rfl (by (try simp only [List.map_toArray, List.map_cons, List.map_nil]); first | done | rfl | (simp only [List.length_drop, List.length_take]; rfl)) ?_; (with_reducible refine (expand_lasting_last.calls ((rd_T42 l0 x21_1).f0) ((rd_T42 l0 x21_1).f1) ((rd_T42 l0 x21_1).f2) ((rd_T42 l0 x21_1).f3) ((rd_T42 l0 x21_1).f4.f0) ((rd_T42 l0 x21_1).f4.f1) ((rd_T42 l0 x21_1).f4.f2) ((rd_T42 l0 x21_1).f5.f0) ((rd_T42 l0 x21_1).f5.f1) ((rd_T42 l0 x21_1).f6) ((rd_T42 l0 x21_1).f7) t164 _ A17.out).mono ?_); rintro e w44 ⟨rfl, hb⟩; refine ⟨_, rfl, ?_⟩; have n0_ := Aside0.mk (Kd.R_below (by (with_reducible repeat (first | apply Kd.R_alloc | apply Kd.R_drewN | apply Kd.R_drew)); exact HO_6.out) hb); have n1_ := Aside0.mk (blk_below (g := gb161) (o := .cells #[.string ((rd_T42 l0 x21_1).f0), .int .i64 ((rd_T42 l0 x21_1).f1), .int .i64 ((rd_T42 l0 x21_1).f2), .int .i64 ((rd_T42 l0 x21_1).f3), .int .i64 ((rd_T42 l0 x21_1).f4.f0), .int .i64 ((rd_T42 l0 x21_1).f4.f1), .int .i64 ((rd_T42 l0 x21_1).f4.f2), .int .i64 ((rd_T42 l0 x21_1).f5.f0), .int .i64 ((rd_T42 l0 x21_1).f5.f1), .int .i64 ((rd_T42 l0 x21_1).f6), .string ((rd_T42 l0 x21_1).f7)] 42 (0, 0)) (by (with_reducible repeat (first | refine blk_drewN ?_ _ | refine blk_drew ?_ | refine blk_alloc ?_ _)); exact BK161.out) hb); have n2_ := Aside0.mk (blk_below (g := gb162) (o := .cells #[.string ((rd_T42 l0 x21_1).f0), .int .i64 ((rd_T42 l0 x21_1).f1), .int .i64 ((rd_T42 l0 x21_1).f2), .int .i64 ((rd_T42 l0 x21_1).f3), .int .i64 ((rd_T42 l0 x21_1).f4.f0), .int .i64 ((rd_T42 l0 x21_1).f4.f1), .int .i64 ((rd_T42 l0 x21_1).f4.f2), .int .i64 ((rd_T42 l0 x21_1).f5.f0), .int .i64 ((rd_T42 l0 x21_1).f5.f1), .int .i64 ((rd_T42 l0 x21_1).f6), .string ((rd_T42 l0 x21_1).f7)] 48 (0, 0)) (by (with_reducible repeat (first | refine blk_drewN ?_ _ | refine blk_drew ?_ | refine blk_alloc ?_ _)); exact BK162.out) hb); have n3_ := Aside0.mk (below_step (by repeat (first | (with_reducible first | exact HB.out | apply below_alloc | apply pw_below_drewN | apply below_drew1 | refine below_set ?_ GE161.out | refine below_set ?_ GE162.out) | exact HB.out)) hb); clear HO_6; clear BK161; clear BK162; clear HB; have HO_6 := n0_; have BK161 := n1_; have BK162 := n2_; have HB := n3_; clear n0_ n1_ n2_ n3_; (try clear hb); (try clear hb2); (try clear hk); (try clear hi)))
                  go_roundg k2
                  case measure => have := HK1.out; have := HK2.out; omega
                  case rel => exact ⟨(x6_2), (wrap64 (x21_1 + 1)), (by first | rfl | (simp; done) | (simp [*]; done)), H', ⟨by have := HK1.out; have := HK2.out; omega⟩, ⟨by (with_reducible repeat (first | apply Kd.R_alloc | apply Kd.R_drewN | apply Kd.R_drew)); exact HO_6.out⟩, ⟨by repeat (first | (with_reducible first | exact HB.out | apply below_alloc | apply pw_below_drewN | apply below_drew1 | refine below_set ?_ GE161.out | refine below_set ?_ GE162.out) | exact HB.out)⟩⟩
          · rw [if_neg c8] at H
            exact absurd H (by simp)
        · rw [if_neg c7] at H
          exact absurd H (by simp)
      · rw [if_neg c6] at H
        have c6b0 : decide (x21_1 < (l0.length : Int)) = false := decide_eq_false c6
        clear c6
        by_cases cl_ : x6_1.length < 4398046511104
        case neg => rw [if_neg cl_] at H; exact absurd H (by simp)
        rw [if_pos cl_] at H
        have CL_ := Aside0.mk cl_
        clear cl_
        obtain ⟨ys, hys⟩ : ∃ ys, sortE x6_1 = ys := ⟨_, rfl⟩
        rw [hys] at H
        have HYS := Aside0.mk hys
        clear hys
        replace H := Option.bind_eq_some_iff.mp H
        obtain ⟨t174, A450, H⟩ := H
        replace H : (expand_From.l2 k1 l0 ys t174 (ys.length : Int) 0) = some r := H
        have A45 := Aside0.mk A450
        clear A450
        have H' := Aside0.mk H
        clear H
        go_wp2_with (first | ((with_reducible refine gate_callee (f := 20) rfl ?_); refine goesL_ (some 53) rfl rfl Try.func20 (by kernel_rfl) rfl #[u6, .func (.func 21) #[] #[]] rfl (by (try simp only [List.map_toArray, List.map_cons, List.map_nil]); first | done | rfl) ?_; (refine (sort_calls (by (with_reducible repeat (first | apply Kd.R_alloc | apply Kd.R_drewN | apply Kd.R_drew)); exact HO_6.out) (below_size (by repeat (first | (with_reducible first | exact HB.out | apply below_alloc | apply pw_below_drewN | apply below_drew1) | exact HB.out))) (by have := CL_.out; omega)).mono ?_); rintro e ws_ ⟨rfl, hR, hb⟩; refine ⟨_, rfl, ?_⟩; have n0_ := Aside0.mk (by have h_ := hR; rw [HYS.out] at h_; exact h_); have n1_ := Aside0.mk (Below.trans (by repeat (first | (with_reducible first | exact HB.out | apply below_alloc | apply pw_below_drewN | apply below_drew1) | exact HB.out)) hb); clear HO_6; clear HB; have HO_6 := n0_; have HB := n1_; clear n0_ n1_; clear hb hR) | ((with_reducible refine gate_callee (f := 22) rfl ?_); refine goesL_ (some 56) rfl rfl Try.func22 (by kernel_rfl) rfl #[.slice A0 l0.length c0, .int .i64 ji4] rfl (by (try simp only [List.map_toArray, List.map_cons, List.map_nil]); first | done | (simp only [hji4]; rfl) | rfl | (simp only [List.length_drop, List.length_take]; rfl)) ?_; (with_reducible refine (expand_saved.calls k1 _ _ l0 ji4 t174 _ ?side1 ?side2 A45.out).mono ?_); (case side1 => repeat (first | exact (Kd.C_below HR0.out HB.out) | (with_reducible refine Kd.C_alloc ?_ _) | (with_reducible refine Kd.C_drewN ?_ _) | (with_reducible refine Kd.C_drew ?_))); (case side2 => exact HC0.out); rintro e w46 ⟨rfl, hb⟩; refine ⟨_, rfl, ?_⟩; have n0_ := Aside0.mk (Kd.R_below (by (with_reducible repeat (first | apply Kd.R_alloc | apply Kd.R_drewN | apply Kd.R_drew)); exact HO_6.out) hb); have n1_ := Aside0.mk (below_step (by repeat (first | (with_reducible first | exact HB.out | apply below_alloc | apply pw_below_drewN | apply below_drew1) | exact HB.out)) hb); clear HO_6; clear HB; have HO_6 := n0_; have HB := n1_; clear n0_ n1_; (try clear hb); (try clear hb2); (try clear hk); (try clear hi); obtain ⟨Ao47, co47, eo47⟩ := Kd.R_slice HO_6.out; subst eo47))
        go_loopg [13, 59] k1 (fun kq v13 v59 w' => ∃ (x6_2 : List (S36)) (x13_2 : Int) (x59_2 : Int), v13 = .int .i64 x13_2 ∧ v59 = .int .i64 x59_2 ∧ Aside0 (expand_From.l2 kq l0 x6_2 x13_2 (ys.length : Int) x59_2 = some r) ∧ Aside0 (kq ≤ k1) ∧ Aside0 (Kd.R k36 36 w' w.heap.size (fun _ => True) (.slice Ao47 ys.length co47) x6_2) ∧ Aside0 (Below w.heap.size w w'))
        case atStart => exact ⟨(ys), (t174), (0), (by first | rfl | (simp; done) | (simp [*]; done)), (by first | rfl | (simp; done) | (simp [*]; done)), H', ⟨Nat.le_refl _⟩, ⟨by (with_reducible repeat (first | apply Kd.R_alloc | apply Kd.R_drewN | apply Kd.R_drew)); exact HO_6.out⟩, ⟨by repeat (first | (with_reducible first | exact HB.out | apply below_alloc | apply pw_below_drewN | apply below_drew1) | exact HB.out)⟩⟩
        case round =>
          clear H'
          try clear c1
          try clear p1
          try clear q1
          try clear hx1
          try clear c2
          try clear p2
          try clear c3
          try clear c4
          try clear c6
          try clear c6b0
          try clear p6
          try clear c7
          try clear c7b0
          try clear c8
          try clear c8b0
          try clear c11
          try clear c14
          try clear p16
          try clear q16
          try clear hx16
          try clear c17
          try clear c18
          try clear c19
          try clear c19b0
          try clear c21
          try clear c22
          try clear c23
          try clear c29
          try clear c30
          try clear c33
          try clear c39
          try clear c40
          try clear c42
          try clear hcz12_0
          try clear hcz12_1
          try clear hcz12_10
          try clear hcz12_2
          try clear hcz12_3
          try clear hcz12_4
          try clear hcz12_5
          try clear hcz12_6
          try clear hcz12_7
          try clear hcz12_8
          try clear hcz12_9
          try clear hcz15_0
          try clear hcz15_1
          try clear hcz15_10
          try clear hcz15_2
          try clear hcz15_3
          try clear hcz15_4
          try clear hcz15_5
          try clear hcz15_6
          try clear hcz15_7
          try clear hcz15_8
          try clear hcz15_9
          try clear hcz24_0
          try clear hcz24_1
          try clear hcz24_10
          try clear hcz24_2
          try clear hcz24_3
          try clear hcz24_4
          try clear hcz24_5
          try clear hcz24_6
          try clear hcz24_7
          try clear hcz24_8
          try clear hcz24_9
          try clear hcz26_0
          try clear hcz26_1
          try clear hcz26_10
          try clear hcz26_2
          try clear hcz26_3
          try clear hcz26_4
          try clear hcz26_5
          try clear hcz26_6
          try clear hcz26_7
          try clear hcz26_8
          try clear hcz26_9
          try clear hcz31_0
          try clear hcz31_1
          try clear hcz31_2
          try clear hcz31_3
          try clear hcz34_0
          try clear hcz34_1
          try clear hcz34_10
          try clear hcz34_2
          try clear hcz34_3
          try clear hcz34_4
          try clear hcz34_5
          try clear hcz34_6
          try clear hcz34_7
          try clear hcz34_8
          try clear hcz34_9
          try clear hcz36_0
          try clear hcz36_1
          try clear hcz36_10
          try clear hcz36_2
          try clear hcz36_3
          try clear hcz36_4
          try clear hcz36_5
          try clear hcz36_6
          try clear hcz36_7
          try clear hcz36_8
          try clear hcz36_9
          try clear hcz41_0
          try clear hcz41_1
          try clear hcz41_2
          try clear hcz41_3
          try clear hcz43_0
          try clear hcz43_1
          try clear hcz43_10
          try clear hcz43_2
          try clear hcz43_3
          try clear hcz43_4
          try clear hcz43_5
          try clear hcz43_6
          try clear hcz43_7
          try clear hcz43_8
          try clear hcz43_9
          try clear hfz12_0
          try clear hfz12_1
          try clear hfz12_10
          try clear hfz12_2
          try clear hfz12_3
          try clear hfz12_4
          try clear hfz12_5
          try clear hfz12_6
          try clear hfz12_7
          try clear hfz12_8
          try clear hfz12_9
          try clear hfz15_0
          try clear hfz15_1
          try clear hfz15_10
          try clear hfz15_2
          try clear hfz15_3
          try clear hfz15_4
          try clear hfz15_5
          try clear hfz15_6
          try clear hfz15_7
          try clear hfz15_8
          try clear hfz15_9
          try clear hfz24_0
          try clear hfz24_1
          try clear hfz24_10
          try clear hfz24_2
          try clear hfz24_3
          try clear hfz24_4
          try clear hfz24_5
          try clear hfz24_6
          try clear hfz24_7
          try clear hfz24_8
          try clear hfz24_9
          try clear hfz26_0
          try clear hfz26_1
          try clear hfz26_10
          try clear hfz26_2
          try clear hfz26_3
          try clear hfz26_4
          try clear hfz26_5
          try clear hfz26_6
          try clear hfz26_7
          try clear hfz26_8
          try clear hfz26_9
          try clear hfz31_0
          try clear hfz31_1
          try clear hfz31_2
          try clear hfz31_3
          try clear hfz34_0
          try clear hfz34_1
          try clear hfz34_10
          try clear hfz34_2
          try clear hfz34_3
          try clear hfz34_4
          try clear hfz34_5
          try clear hfz34_6
          try clear hfz34_7
          try clear hfz34_8
          try clear hfz34_9
          try clear hfz36_0
          try clear hfz36_1
          try clear hfz36_10
          try clear hfz36_2
          try clear hfz36_3
          try clear hfz36_4
          try clear hfz36_5
          try clear hfz36_6
          try clear hfz36_7
          try clear hfz36_8
          try clear hfz36_9
          try clear hfz41_0
          try clear hfz41_1
          try clear hfz41_2
          try clear hfz41_3
          try clear hfz43_0
          try clear hfz43_1
          try clear hfz43_10
          try clear hfz43_2
          try clear hfz43_3
          try clear hfz43_4
          try clear hfz43_5
          try clear hfz43_6
          try clear hfz43_7
          try clear hfz43_8
          try clear hfz43_9
          try clear hx160_0
          try clear hx160_1
          try clear hx160_10
          try clear hx160_2
          try clear hx160_3
          try clear hx160_4
          try clear hx160_5
          try clear hx160_6
          try clear hx160_7
          try clear hx160_8
          try clear hx160_9
          try clear p1
          try clear p16
          try clear p160
          try clear p2
          try clear q1
          try clear q16
          try clear q160
          obtain ⟨x6_2, x13_2, x59_2, rfl, rfl, HA, HK2, HO_6, HB⟩ := hrel
          have hl6_2 := (Kd.R_reads' HO_6.out).1
          rw [hl6_2] at HO_6
          (try simp only [hl6_2])
          cases gk with
          | zero => exact absurd HA.out (by simp [expand_From.l2])
          | succ k2 =>
            have H := HA.out
            clear HA
            simp only [expand_From.l2] at H
            by_cases c48 : x59_2 < (ys.length : Int)
            · rw [if_pos c48] at H
              have c48b0 : decide (x59_2 < (ys.length : Int)) = true := decide_eq_true c48
              clear c48
              by_cases c49 : 0 ≤ x59_2
              · rw [if_pos c49] at H
                have c49b0 : decide (0 ≤ x59_2) = true := decide_eq_true c49
                clear c49
                by_cases c50 : x59_2 < (x6_2.length : Int)
                · rw [if_pos c50] at H
                  have c50b0 : decide (x59_2 < (x6_2.length : Int)) = true := decide_eq_true c50
                  clear c50
                  by_cases c51 : 0 ≤ ((rd_T36 x6_2 x59_2).f0)
                  · rw [if_pos c51] at H
                    have c51b0 : decide (0 ≤ ((rd_T36 x6_2 x59_2).f0)) = true := decide_eq_true c51
                    clear c51
                    by_cases c52 : ((rd_T36 x6_2 x59_2).f0) < (l0.length : Int)
                    · rw [if_pos c52] at H
                      have c52b0 : decide (((rd_T36 x6_2 x59_2).f0) < (l0.length : Int)) = true := decide_eq_true c52
                      clear c52
                      obtain ⟨y177, hy177⟩ : ∃ y_ : List (S36), y_ = (x6_2.set (x59_2 : Int).toNat (⟨(rd_T36 x6_2 x59_2).f0, (rd_T36 x6_2 x59_2).f1, (rd_T36 x6_2 x59_2).f2, x13_2⟩ : S36)) := ⟨_, rfl⟩
                      replace H : (expand_From.l2 k2 l0 y177 ((rd_T42 l0 ((rd_T36 x6_2 x59_2).f0)).f6) (ys.length : Int) (wrap64 (x59_2 + 1))) = some r := by first | (rw [hy177]; with_reducible exact H) | (have H2_ := (Option.bind_some _ _).symm.trans H; rw [hy177]; with_reducible exact H2_) | (have H2_ := (Option.bind_some _ _).symm.trans H; with_reducible exact H2_) | with_reducible exact H | (rw [hy177]; exact H) | exact H
                      have Ny177 := Aside0.mk hy177
                      clear hy177
                      have H' := Aside0.mk H
                      clear H
                      have p175 : 0 ≤ (x59_2 : Int) := of_decide_eq_true (by first | (with_reducible assumption) | assumption)
                      have q175 : x59_2 < (x6_2.length : Int) := of_decide_eq_true (by first | (with_reducible assumption) | assumption)
                      obtain ⟨ad175, e175, hx175_0, hx175_1, hx175_2, hx175_3⟩ := at_T36 (Kd.R_reads' HO_6.out).2.2 x59_2 p175 q175
                      cases e175
                      replace p175 := eq_true p175
                      replace q175 := eq_true q175
                      have p176 : 0 ≤ (((rd_T36 x6_2 x59_2).f0) : Int) := of_decide_eq_true (by first | (with_reducible assumption) | assumption)
                      have q176 : ((rd_T36 x6_2 x59_2).f0) < (l0.length : Int) := of_decide_eq_true (by first | (with_reducible assumption) | assumption)
                      obtain ⟨ad176, e176, hx176_0, hx176_1, hx176_2, hx176_3, hx176_4, hx176_5, hx176_6, hx176_7, hx176_8, hx176_9, hx176_10⟩ := at_T42 HR0.out ((rd_T36 x6_2 x59_2).f0) p176 q176
                      cases e176
                      replace hx176_0 := (HB.out.cell (World.block_lt_of_cell? w _ hx176_0)).trans hx176_0
                      replace hx176_1 := (HB.out.cell (World.block_lt_of_cell? w _ hx176_1)).trans hx176_1
                      replace hx176_2 := (HB.out.cell (World.block_lt_of_cell? w _ hx176_2)).trans hx176_2
                      replace hx176_3 := (HB.out.cell (World.block_lt_of_cell? w _ hx176_3)).trans hx176_3
                      replace hx176_4 := (HB.out.cell (World.block_lt_of_cell? w _ hx176_4)).trans hx176_4
                      replace hx176_5 := (HB.out.cell (World.block_lt_of_cell? w _ hx176_5)).trans hx176_5
                      replace hx176_6 := (HB.out.cell (World.block_lt_of_cell? w _ hx176_6)).trans hx176_6
                      replace hx176_7 := (HB.out.cell (World.block_lt_of_cell? w _ hx176_7)).trans hx176_7
                      replace hx176_8 := (HB.out.cell (World.block_lt_of_cell? w _ hx176_8)).trans hx176_8
                      replace hx176_9 := (HB.out.cell (World.block_lt_of_cell? w _ hx176_9)).trans hx176_9
                      replace hx176_10 := (HB.out.cell (World.block_lt_of_cell? w _ hx176_10)).trans hx176_10
                      replace p176 := eq_true p176
                      replace q176 := eq_true q176
                      have p53 : 0 ≤ (x59_2 : Int) := of_decide_eq_true (by first | (with_reducible assumption) | assumption)
                      have q53 : (x59_2 : Int) < ((x6_2.length : Int) : Int) := of_decide_eq_true (by first | (with_reducible assumption) | assumption)
                      obtain ⟨go53, co53, eo53, gb53, gl53, cl53, HG53⟩ := Kd.R_form HO_6.out (by omega)
                      (first | cases eo53 | (injection eo53 with ea_ en_ ec_; (first | subst ea_ | (injection ea_ with ea_; subst ea_)); subst ec_; clear en_))
                      have GB53 := Aside0.mk gb53
                      have GG53 := Aside0.mk HG53
                      clear gb53 gl53 HG53
                      (first | simp only [add_plain] at hx175_0 | skip)
                      (first | simp only [add_plain] at hx175_1 | skip)
                      (first | simp only [add_plain] at hx175_2 | skip)
                      (first | simp only [add_plain] at hx175_3 | skip)
                      obtain ⟨ce53, hcl53, hM53, hcc53, hfr53⟩ := Kd.R_elem HO_6.out z36 (x59_2 : Int) p53 q53
                      obtain rfl := k36_openM hM53
                      have hx53_0 : wr.cell? ⟨go53, (x59_2 : Int).toNat * 4, none⟩ = some (.int .i64 ((rd_T36 x6_2 x59_2).f0)) := hcc53 0 _ rfl
                      have hx53_1 : wr.cell? ⟨go53, (x59_2 : Int).toNat * 4 + 1, none⟩ = some (.int .i64 ((rd_T36 x6_2 x59_2).f1)) := hcc53 1 _ rfl
                      have hx53_2 : wr.cell? ⟨go53, (x59_2 : Int).toNat * 4 + 2, none⟩ = some (.int .i64 ((rd_T36 x6_2 x59_2).f2)) := hcc53 2 _ rfl
                      have hx53_3 : wr.cell? ⟨go53, (x59_2 : Int).toNat * 4 + 3, none⟩ = some (.int .i64 ((rd_T36 x6_2 x59_2).f3)) := hcc53 3 _ rfl
                      have hf53_0 : wr.frozen? ⟨go53, (x59_2 : Int).toNat * 4, none⟩ = false := hfr53 0
                      have hf53_1 : wr.frozen? ⟨go53, (x59_2 : Int).toNat * 4 + 1, none⟩ = false := hfr53 1
                      have hf53_2 : wr.frozen? ⟨go53, (x59_2 : Int).toNat * 4 + 2, none⟩ = false := hfr53 2
                      have hf53_3 : wr.frozen? ⟨go53, (x59_2 : Int).toNat * 4 + 3, none⟩ = false := hfr53 3
                      clear hcl53 hcc53 hfr53 hM53
                      replace p53 := eq_true p53
                      replace q53 := eq_true q53
                      have HX54 := Aside0.mk (show Kd.R k36 36 wr w.heap.size (fun _ => True) (.slice (some ⟨go53, 0, none⟩) x6_2.length co47) x6_2 from (by (with_reducible repeat (first | apply Kd.R_alloc | apply Kd.R_drewN | apply Kd.R_drew)); exact HO_6.out))
                      obtain ⟨ce54, hcl54, hM54, hcc54, hfr54⟩ := Kd.R_elem HX54.out z36 (x59_2 : Int) (of_decide_eq_true (by first | (with_reducible assumption) | assumption)) (by have h_ : (x59_2 : Int) < ((x6_2.length : Int) : Int) := of_decide_eq_true (by first | (with_reducible assumption) | assumption); first | exact h_ | (have e_ := (Kd.R_reads' HO_6.out).1; omega) | simpa using h_)
                      obtain rfl := k36_openM hM54
                      have HP54 := Kd.R_seg HX54.out (x59_2 : Int) (of_decide_eq_true (by first | (with_reducible assumption) | assumption)) (by have h_ : (x59_2 : Int) < ((x6_2.length : Int) : Int) := of_decide_eq_true (by first | (with_reducible assumption) | assumption); first | exact h_ | (have e_ := (Kd.R_reads' HO_6.out).1; omega) | simpa using h_) (seg := [.int .i64 x13_2]) (j := 3) hcl54 hcc54 (show 4 ≤ 4 from by decide) (x' := (⟨(rd_T36 x6_2 x59_2).f0, (rd_T36 x6_2 x59_2).f1, (rd_T36 x6_2 x59_2).f2, x13_2⟩ : S36)) (k36_mkM _ _ _ (⟨(rd_T36 x6_2 x59_2).f0, (rd_T36 x6_2 x59_2).f1, (rd_T36 x6_2 x59_2).f2, x13_2⟩ : S36) ) (fun _ hk => hk)
                      have hx54_3 := hcc54 3 _ rfl
                      (try simp only [show (k36).sz = 4 from rfl, Nat.mul_one, Nat.add_zero] at hx54_3)
                      have hf54_3 := hfr54 3
                      (try simp only [show (k36).sz = 4 from rfl, Nat.mul_one, Nat.add_zero] at hf54_3)
                      clear hcl54 hcc54 hfr54 hM54
                      go_wp2_with (first | ((with_reducible refine gate_store (t := 3) (p := 75) rfl ?_); refine store_event (t := 3) (p := 75) (v := ?vo_w55) (w1 := (wr.setCell ⟨go53, (x59_2 : Int).toNat * 4 + 3, none⟩ (.int .i64 x13_2))) ?hg ?ho ?hn ?hr ?_; (case ho => rfl); (case hg => rfl); (case hn => rfl); (case hr => first | (go_simp; done) | (go_simp; rfl)); intro w55 hw; have hg : wr.grownBy w55 (some go53) := (by rw [hw]; exact HP54.2); have hp_ : Kd.R k36 36 w55 w.heap.size (fun _ => True) (.slice (some ⟨go53, 0, none⟩) x6_2.length co47) y177 := (by rw [hw, Ny177.out]; exact HP54.1); clear HP54; have n0_ := Aside0.mk (hp_); have n1_ := Aside0.mk ((by rw [hw]; exact below_set (HB.out) GB53.out : Below w.heap.size w w55)); clear HO_6; clear HB; have HO_6 := n0_; have HB := n1_; clear n0_ n1_; clear hg hw hp_))
                      (try simp only [← hl6_2])
                      go_roundg k2
                      case measure => have := HK1.out; have := HK2.out; omega
                      case rel => exact ⟨(y177), ((rd_T42 l0 ((rd_T36 x6_2 x59_2).f0)).f6), (wrap64 (x59_2 + 1)), (by first | rfl | (simp; done) | (simp [*]; done)), (by first | rfl | (simp; done) | (simp [*]; done)), H', ⟨by have := HK1.out; have := HK2.out; omega⟩, ⟨by (try simp only [hl6_2]); (with_reducible repeat (first | apply Kd.R_alloc | apply Kd.R_drewN | apply Kd.R_drew)); exact HO_6.out⟩, ⟨by repeat (first | (with_reducible first | exact HB.out | apply below_alloc | apply pw_below_drewN | apply below_drew1) | exact HB.out)⟩⟩
                    · rw [if_neg c52] at H
                      exact absurd H (by simp)
                  · rw [if_neg c51] at H
                    exact absurd H (by simp)
                · rw [if_neg c50] at H
                  exact absurd H (by simp)
              · rw [if_neg c49] at H
                exact absurd H (by simp)
            · rw [if_neg c48] at H
              have c48b0 : decide (x59_2 < (ys.length : Int)) = false := decide_eq_false c48
              (try rw [hl6_2] at c48b0)
              clear c48
              obtain rfl := Option.some.inj H
              go_wp2
              go_ret
              exact ⟨_, by first | rfl | (simp [errW_none, errW_some] <;> rfl) | (simp only [← hji4, ← hji5]; first | rfl | (simp [errW_none, errW_some] <;> rfl)) | (simp [*, errW_none, errW_some] <;> rfl), by (with_reducible repeat (first | apply Kd.R_alloc | apply Kd.R_drewN | apply Kd.R_drew)); exact HO_6.out, by repeat (first | (with_reducible first | exact HB.out | apply below_alloc | apply pw_below_drewN | apply below_drew1) | exact HB.out)⟩


end Go.Proofs.Ytlonanlogdokfaa.S
