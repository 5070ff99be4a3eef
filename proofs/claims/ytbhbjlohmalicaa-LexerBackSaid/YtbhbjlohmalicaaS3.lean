-- Written by a program of this session for this claim (it follows the print's forms). Not trusted: Lean checks it.
import Derived.Test.YtbhbjlohmalicaaS0
namespace Go.Proofs.Ytbhbjlohmalicaa.S
open Go.RowKit Go.Proofs.YtbhbjlohmalicaaW.PrintWords Go.Proofs.YtbhbjlohmalicaaW.PrintLast Go.Proofs.YtbhbjlohmalicaaW.PrintMore
attribute [local go_sem] max2_int min2_int max_two min_two max_three min_three max_four min_four   -- for this text's walks alone
set_option linter.unusedVariables false
set_option linter.unusedSimpArgs false

-- NOT PRINTED: function 19 (lexer_scanner_close)

/-! ### lexer_Fields: function 10 -/

theorem lexer_info5 : (Try.prog.info? 5).map (fun i => (i.zero, i.size, i.bytes)) = some (some (.int .u8 0), 1, 1) := by kernel_rfl
theorem lexer_info34 : (Try.prog.info? 34).map (fun i => (i.zero, i.size, i.bytes)) = some (some (.agg #[(.string ⟨#[]⟩), (.int .i64 0)]), 2, 24) := by kernel_rfl

/-- the scanner at block g -/
def Sc (w : World) (B g : Nat) (out : List S34) (text : List Int) (a q : Int) (n : Bool) : Prop :=
  ∃ vo vt : Value, w.heap[g]? = some (.cells #[vo, vt, .int .i64 a, .int .i64 q, .bool n] 44 (0, 0)) ∧ B ≤ g ∧ B ≤ w.heap.size ∧
    Kd.R k34 34 w B (fun _ => True) vo out ∧ Kd.R (Kd.int .u8) 5 w B (fun _ => True) vt text

def whB (c : Int) : Bool := c == 32 || (decide (9 ≤ c) && decide (c ≤ 13))
theorem white_any (c : Int) (w : World) : Calls Try.prog 23 #[.int .u8 c] w fun e w' => e = .returned (.bool (whB c)) ∧ w = w' := by
  by_cases h1 : (c == 32) = true
  · have e : whB c = true := by unfold whB; simp [h1]
    rw [e]
    go_enter Try.func23, Try.ntmps23
    go_wp2
    go_ret
    exact ⟨rfl, rfl⟩
  · have h1' : (c == 32) = false := by simpa using h1
    by_cases h2 : 9 ≤ c
    · have h2' : decide (9 ≤ c) = true := decide_eq_true h2
      have e : whB c = decide (c ≤ 13) := by unfold whB; simp [h1', h2']
      rw [e]
      clear h1 h2
      go_enter Try.func23, Try.ntmps23
      go_wp2
      go_ret
      exact ⟨rfl, rfl⟩
    · have h2' : decide (9 ≤ c) = false := decide_eq_false h2
      have e : whB c = false := by unfold whB; simp [h1', h2']
      rw [e]
      clear h1 h2
      go_enter Try.func23, Try.ntmps23
      go_wp2
      go_ret
      exact ⟨rfl, rfl⟩

def ScPost (w : World) (B g : Nat) (out : List S34) (text : List Int) (a q : Int) (n : Bool) (w' : World) : Prop :=
  Sc w' B g out text a q n ∧ Below B w w'

theorem Sc.put1 {w : World} {B g : Nat} {out : List S34} {a q : Int} {n : Bool} {vo vt : Value}
    (hb : w.heap[g]? = some (.cells #[vo, vt, .int .i64 a, .int .i64 q, .bool n] 44 (0, 0))) (hg : B ≤ g) (hw : B ≤ w.heap.size)
    (ho : Kd.R k34 34 w B (fun _ => True) vo out) : Sc ((w.setCell ⟨g, 1, none⟩ (.slice none 0 0)).setCell ⟨g, 2, none⟩ (.int .i64 (-1))) B g out [] (-1) q n := by
  refine ⟨vo, .slice none 0 0, ?_, hg, by simpa using hw, ?_, Kd.R_nil _ _ _ _ _⟩
  · simpa using blk_set (blk_set hb 1 (.slice none 0 0)) 2 (.int .i64 (-1))
  · exact Kd.R_set (Kd.R_set ho hb (by decide) 1 _) (blk_set hb 1 (.slice none 0 0)) (by decide) 2 _

set_option maxHeartbeats 1000000 in
set_option maxRecDepth 100000 in
theorem close_no (w : World) (B g : Nat) (out : List S34) (text : List Int) (a q : Int) (n : Bool) (h : Sc w B g out text a q n) (ha : a < 0) :
    Calls Try.prog 19 #[.pointer (some ⟨g, 0, none⟩)] w fun e w' => e = .returned (.tuple #[]) ∧ ScPost w B g out [] (-1) q n w' := by
  obtain ⟨vo, vt, hb, hg, hw, ho, ht⟩ := h
  have c0 := (blk_cell hb 0).trans rfl
  have c1 := (blk_cell hb 1).trans rfl
  have c2 := (blk_cell hb 2).trans rfl
  have f0 := blk_frozen hb 0
  have f1 := blk_frozen hb 1
  have f2 := blk_frozen hb 2
  have HB := Aside0.mk hb
  clear hb
  go_enter Try.func19, Try.ntmps19
  go_wp2
  go_end0
  exact ⟨rfl, Sc.put1 HB.out hg hw ho, ((Below.refl _ _).setCell (by exact hg) _).setCell (by exact hg) _⟩


theorem Sc.put2 {w : World} {B g : Nat} {out' : List S34} {a q : Int} {n : Bool} {vo vt v' : Value}
    (hb : w.heap[g]? = some (.cells #[vo, vt, .int .i64 a, .int .i64 q, .bool n] 44 (0, 0))) (hg : B ≤ g) (hw : B ≤ w.heap.size)
    (ho : Kd.R k34 34 w B (fun _ => True) v' out') : Sc (((w.setCell ⟨g, 0, none⟩ v').setCell ⟨g, 1, none⟩ (.slice none 0 0)).setCell ⟨g, 2, none⟩ (.int .i64 (-1))) B g out' [] (-1) q n := by
  have hb' : (w.setCell ⟨g, 0, none⟩ v').heap[g]? = some (.cells #[v', vt, .int .i64 a, .int .i64 q, .bool n] 44 (0, 0)) := by simpa using blk_set hb 0 v'
  exact Sc.put1 hb' hg (by simpa using hw) (Kd.R_set ho hb (by decide) 0 _)

set_option maxHeartbeats 2000000 in
set_option maxRecDepth 100000 in
theorem close_yes (w : World) (B g : Nat) (out : List S34) (text : List Int) (a q : Int) (n : Bool) (h : Sc w B g out text a q n) (ha : 0 ≤ a) (hl : out.length ≤ 1000) :
    Calls Try.prog 19 #[.pointer (some ⟨g, 0, none⟩)] w fun e w' => e = .returned (.tuple #[]) ∧ ScPost w B g (out ++ [⟨strOfNums text, a⟩]) [] (-1) q n w' := by
  obtain ⟨vo, vt, hb, hg, hw, ho, ht⟩ := h
  obtain ⟨A1, k1, rfl, hk1, ht1⟩ := Kd.R_reads ht
  have c0 : w.cell? ⟨g, 0, none⟩ = some vo := (blk_cell hb 0).trans rfl
  have c1 : w.cell? ⟨g, 1, none⟩ = some (.slice A1 text.length k1) := (blk_cell hb 1).trans rfl
  have c2 : w.cell? ⟨g, 2, none⟩ = some (.int .i64 a) := (blk_cell hb 2).trans rfl
  have conv : ∀ w' : World, Kd.C (Kd.int .u8) w' A1 text.length text → (convert 42 9 (.slice A1 text.length k1)).run Try.prog w' = .ok (.string (strOfNums text)) w' :=
    fun w' h' => Kd.C_string Try.underlying42 Try.underlying5 Try.underlying9 h'
  have hne : some g ≠ vo.ownBlock := Kd.R_ne ho hb (by decide)
  have htn : Kd.R (Kd.int .u8) 5 w B (fun k => some k ≠ vo.ownBlock) (.slice A1 text.length k1) text := by
    rcases hvo : vo.ownBlock with _ | b
    · exact Kd.R_mono ht (fun _ _ => by simp)
    · obtain ⟨inner, hown⟩ := Kd.R_own ho
      obtain ⟨cells, hcb⟩ := own_typed hown b hvo
      exact Kd.R_mono (Kd.R_types ht hcb (by decide)) (fun k hk => by simpa using hk.2)
  have C0 := Aside0.mk (show w.drew.cell? ⟨g, 0, none⟩ = some vo from c0)
  have C1 := Aside0.mk (show w.drew.cell? ⟨g, 1, none⟩ = some (.slice A1 text.length k1) from c1)
  have C2 := Aside0.mk (show w.drew.cell? ⟨g, 2, none⟩ = some (.int .i64 a) from c2)
  have HB := Aside0.mk (blk_drew hb)
  have HO := Aside0.mk (Kd.R_drew ho)
  have HT := Aside0.mk (Kd.R_drew htn)
  have HT1 := Aside0.mk (show Kd.C (Kd.int .u8) w.drew A1 text.length text from Kd.C_below ht1 (Below.refl _ _).drew)
  have HBB := Aside0.mk (show Below B w w.drew from (Below.refl _ _).drew)
  have HW := Aside0.mk (show B ≤ w.drew.heap.size from hw)
  have ND := Aside0.mk hne
  have CV := Aside0.mk conv
  clear hb ho ht ht1 conv htn hne
  go_enter Try.func19, Try.ntmps19
  go_wp2
  clear c0 c1 c2
  refine start_ (n := 20) (S := fun w' => w'.cell? ⟨g, 0, none⟩ = some vo ∧ w'.cell? ⟨g, 1, none⟩ = some (.slice A1 text.length k1) ∧ w'.cell? ⟨g, 2, none⟩ = some (.int .i64 a) ∧ (convert 42 9 (.slice A1 text.length k1)).run Try.prog w' = .ok (.string (strOfNums text)) w') (ds := [19]) #[false, false, false, false, false, false, false, false, false, false, false, false, false, false, false, false, false, false, false, false] (by kernel_rfl) rfl rfl ⟨C0.out, C1.out, C2.out, CV.out _ HT1.out⟩ (fun hHeld => ?_)
  generalize w.drew = W at HB HO HT HT1 C0 C1 C2 HW HBB hHeld ⊢
  refine pure_ (i := 0) (N := some 7) (v := ?_) (a' := ?_) #[true, false, false, false, false, false, false, false, false, false, false, false, false, false, false, false, false, false, false, false] rfl rfl (by kernel_rfl) (fun _ _ _ h => h) (Or.inl ⟨by rfl, ?_⟩) ?_ ?_
  rotate_left
  · intro w'
    go_simp
    with_reducible rfl
  rotate_left
  · simp only [Act.put, List.setIfInBounds_toArray, List.set_cons_zero, List.set_cons_succ, i64_w, i32_w]
    rfl
  refine pure_ (i := 1) (N := some 8) (v := ?_) (a' := ?_) #[true, true, false, false, false, false, false, false, false, false, false, false, false, false, false, false, false, false, false, false] rfl rfl (by kernel_rfl) (fun _ _ _ h => h) (Or.inl ⟨by rfl, ?_⟩) ?_ ?_
  rotate_left
  · intro w'
    go_simp
    with_reducible rfl
  rotate_left
  · simp only [Act.put, List.setIfInBounds_toArray, List.set_cons_zero, List.set_cons_succ, i64_w, i32_w]
    rfl
  refine pure_ (i := 2) (N := some 9) (v := ?_) (a' := ?_) #[true, true, true, false, false, false, false, false, false, false, false, false, false, false, false, false, false, false, false, false] rfl rfl (by kernel_rfl) (fun _ _ _ h => h) (Or.inl ⟨by rfl, ?_⟩) ?_ ?_
  rotate_left
  · intro w'
    go_simp
    with_reducible rfl
  rotate_left
  · simp only [Act.put, List.setIfInBounds_toArray, List.set_cons_zero, List.set_cons_succ, i64_w, i32_w]
    rfl
  refine pure_ (i := 3) (N := some 10) (v := ?_) (a' := ?_) #[true, true, true, true, false, false, false, false, false, false, false, false, false, false, false, false, false, false, false, false] rfl rfl (by kernel_rfl) (fun _ _ _ h => h) (Or.inl ⟨by rfl, ?_⟩) ?_ ?_
  rotate_left
  · intro w'
    go_simp
    with_reducible rfl
  rotate_left
  · simp only [Act.put, List.setIfInBounds_toArray, List.set_cons_zero, List.set_cons_succ, i64_w, i32_w]
    rfl
  refine take_ (i := 4) (N := some 11) (v := ?_) (a' := ?_) #[true, true, true, true, true, false, false, false, false, false, false, false, false, false, false, false, false, false, false, false] rfl rfl (by kernel_rfl) (fun _ _ _ h => h) (Or.inl ⟨by rfl, ?_⟩) hHeld ?_ ?_
  rotate_left
  · rintro w' ⟨s0, s1, s2, s3⟩
    go_simp
    with_reducible rfl
  rotate_left
  · simp only [Act.put, List.setIfInBounds_toArray, List.set_cons_zero, List.set_cons_succ, i64_w, i32_w]
    rfl
  refine pure_ (i := 5) (N := some 12) (v := ?_) (a' := ?_) #[true, true, true, true, true, true, false, false, false, false, false, false, false, false, false, false, false, false, false, false] rfl rfl (by kernel_rfl) (fun _ _ _ h => h) (Or.inl ⟨by rfl, ?_⟩) ?_ ?_
  rotate_left
  · intro w'
    go_simp
    with_reducible rfl
  rotate_left
  · simp only [Act.put, List.setIfInBounds_toArray, List.set_cons_zero, List.set_cons_succ, i64_w, i32_w]
    rfl
  refine pure_ (i := 6) (N := some 13) (v := ?_) (a' := ?_) #[true, true, true, true, true, true, true, false, false, false, false, false, false, false, false, false, false, false, false, false] rfl rfl (by kernel_rfl) (fun _ _ _ h => h) (Or.inl ⟨by rfl, ?_⟩) ?_ ?_
  rotate_left
  · intro w'
    go_simp
    with_reducible rfl
  rotate_left
  · simp only [Act.put, List.setIfInBounds_toArray, List.set_cons_zero, List.set_cons_succ, i64_w, i32_w]
    rfl
  refine pure_ (i := 7) (N := some 14) (v := ?_) (a' := ?_) #[true, true, true, true, true, true, true, true, false, false, false, false, false, false, false, false, false, false, false, false] rfl rfl (by kernel_rfl) (fun _ _ _ h => h) (Or.inl ⟨by rfl, ?_⟩) ?_ ?_
  rotate_left
  · intro w'
    go_simp
    with_reducible rfl
  rotate_left
  · simp only [Act.put, List.setIfInBounds_toArray, List.set_cons_zero, List.set_cons_succ, i64_w, i32_w]
    rfl
  refine take_ (i := 8) (N := some 15) (v := ?_) (a' := ?_) #[true, true, true, true, true, true, true, true, true, false, false, false, false, false, false, false, false, false, false, false] rfl rfl (by kernel_rfl) (fun _ _ _ h => h) (Or.inl ⟨by rfl, ?_⟩) hHeld ?_ ?_
  rotate_left
  · rintro w' ⟨s0, s1, s2, s3⟩
    go_simp
    with_reducible rfl
  rotate_left
  · simp only [Act.put, List.setIfInBounds_toArray, List.set_cons_zero, List.set_cons_succ, i64_w, i32_w]
    rfl
  refine take_ (i := 9) (N := some 16) (v := ?_) (a' := ?_) #[true, true, true, true, true, true, true, true, true, true, false, false, false, false, false, false, false, false, false, false] rfl rfl (by kernel_rfl) (fun _ _ _ h => h) (Or.inl ⟨by rfl, ?_⟩) hHeld ?_ ?_
  rotate_left
  · rintro w' ⟨s0, s1, s2, s3⟩
    go_simp
    with_reducible rfl
  rotate_left
  · simp only [Act.put, List.setIfInBounds_toArray, List.set_cons_zero, List.set_cons_succ, i64_w, i32_w]
    rfl
  refine pure_ (i := 10) (N := some 17) (v := ?_) (a' := ?_) #[true, true, true, true, true, true, true, true, true, true, true, false, false, false, false, false, false, false, false, false] rfl rfl (by kernel_rfl) (fun _ _ _ h => h) (Or.inl ⟨by rfl, ?_⟩) ?_ ?_
  rotate_left
  · intro w'
    go_simp
    with_reducible rfl
  rotate_left
  · simp only [Act.put, List.setIfInBounds_toArray, List.set_cons_zero, List.set_cons_succ, i64_w, i32_w]
    rfl
  refine pure_ (i := 11) (N := some 18) (v := ?_) (a' := ?_) #[true, true, true, true, true, true, true, true, true, true, true, true, false, false, false, false, false, false, false, false] rfl rfl (by kernel_rfl) (fun _ _ _ h => h) (Or.inl ⟨by rfl, ?_⟩) ?_ ?_
  rotate_left
  · intro w'
    go_simp
    with_reducible rfl
  rotate_left
  · simp only [Act.put, List.setIfInBounds_toArray, List.set_cons_zero, List.set_cons_succ, i64_w, i32_w]
    rfl
  refine pure_ (i := 12) (N := some 19) (v := ?_) (a' := ?_) #[true, true, true, true, true, true, true, true, true, true, true, true, true, false, false, false, false, false, false, false] rfl rfl (by kernel_rfl) (fun _ _ _ h => h) (Or.inl ⟨by rfl, ?_⟩) ?_ ?_
  rotate_left
  · intro w'
    go_simp
    with_reducible rfl
  rotate_left
  · simp only [Act.put, List.setIfInBounds_toArray, List.set_cons_zero, List.set_cons_succ, i64_w, i32_w]
    rfl
  refine take_ (i := 13) (N := some 20) (v := ?_) (a' := ?_) #[true, true, true, true, true, true, true, true, true, true, true, true, true, true, false, false, false, false, false, false] rfl rfl (by kernel_rfl) (fun _ _ _ h => h) (Or.inl ⟨by rfl, ?_⟩) hHeld ?_ ?_
  rotate_left
  · rintro w' ⟨s0, s1, s2, s3⟩
    go_simp
    with_reducible rfl
  rotate_left
  · simp only [Act.put, List.setIfInBounds_toArray, List.set_cons_zero, List.set_cons_succ, i64_w, i32_w]
    rfl
  refine pure_ (i := 14) (N := some 21) (v := ?_) (a' := ?_) #[true, true, true, true, true, true, true, true, true, true, true, true, true, true, true, false, false, false, false, false] rfl rfl (by kernel_rfl) (fun _ _ _ h => h) (Or.inl ⟨by rfl, ?_⟩) ?_ ?_
  rotate_left
  · intro w'
    go_simp
    with_reducible rfl
  rotate_left
  · simp only [Act.put, List.setIfInBounds_toArray, List.set_cons_zero, List.set_cons_succ, i64_w, i32_w]
    rfl
  refine one_ (i := 15) (N := some 22) #[true, true, true, true, true, true, true, true, true, true, true, true, true, true, true, true, false, false, false, false] rfl rfl (by kernel_rfl) (by decide) (fun K hK => ?_)
  refine value_ (w1 := ?_) (v := ?_) (by rfl) rfl ?_ ?_
  rotate_left 2
  · go_simp
    constructor
    · rfl
    · rfl
  refine hK.out _ _ ⟨(World.cell?_alloc_lt _ _ _ (World.block_lt_of_cell? _ _ C0.out)).trans C0.out, (World.cell?_alloc_lt _ _ _ (World.block_lt_of_cell? _ _ C1.out)).trans C1.out, (World.cell?_alloc_lt _ _ _ (World.block_lt_of_cell? _ _ C2.out)).trans C2.out, CV.out _ (Kd.C_below HT1.out (below_alloc (Below.refl _ _) _))⟩ (fun hHeld => ?_)
  clear hK K
  refine norm_ (a' := ?_) ?_ ?_
  rotate_left
  · show Act.put _ (some 22) _ = _
    simp only [Act.put, List.setIfInBounds_toArray, List.set_cons_zero, List.set_cons_succ, i64_w, i32_w]
    rfl
  refine one_ (i := 16) (N := some 23) #[true, true, true, true, true, true, true, true, true, true, true, true, true, true, true, true, true, false, false, false] rfl rfl (by kernel_rfl) (by decide) (fun K hK => ?_)
  refine Kd.R_append_step k34 (w0 := w) B (by rfl) (.tmp 11) (.tmp 22) 23 34 (.agg #[(.string ⟨#[]⟩), (.int .i64 0)]) 24 rfl Try.underlying23 lexer_info34 rfl (by decide) (by omega) vo out (⟨strOfNums text, a⟩ : S34) [.string (strOfNums text), .int .i64 a] (fun _ => True) (fun _ => False) rfl rfl ?aP (fun _ hk => hk.elim) ?aF ?aO ?aB ?aS ?aL ?_
  (case aP => exact k34_mkM _ _ _ (⟨strOfNums text, a⟩ : S34))
  (case aB => exact HBB.out)
  (case aF => exact (fun _ _ => trivial))
  (case aO => exact HO.out)
  (case aS => exact HW.out)
  (case aL => omega)
  intro v1 w1 ho1 hb1 hg1 hat1
  have HB2 := Aside0.mk (blk_grown HB.out hg1 ND.out)
  have kc0 := hg1.cell C0.out ND.out
  have kc1 := hg1.cell C1.out ND.out
  have kc2 := hg1.cell C2.out ND.out
  have kcv : (convert 42 9 (.slice A1 text.length k1)).run Try.prog w1 = .ok (.string (strOfNums text)) w1 := (by obtain ⟨_, _, e_, _, hr_⟩ := Kd.R_reads (Kd.R_grown HT.out hg1 (fun _ hk => hk)); cases e_; exact CV.out _ hr_)
  obtain ⟨n2, A2, k2, rfl⟩ : ∃ n2 A2 k2, v1 = .slice A2 n2 k2 := (by obtain ⟨A2, k2, e2, _, _⟩ := Kd.R_reads ho1; exact ⟨_, A2, k2, e2⟩)
  have HO1 := Aside0.mk ho1
  have HB1 := Aside0.mk hb1
  have HS1 := Aside0.mk (Nat.le_trans HW.out hg1.size)
  refine hK.out _ _ ⟨kc0, kc1, kc2, kcv⟩ (fun hHeld => ?_)
  clear hK K hHeld kcv ho1 hb1 hg1 hat1
  refine norm_ (a' := ?_) ?_ ?_
  rotate_left
  · show Act.put _ (some 23) _ = _
    simp only [Act.put, List.setIfInBounds_toArray, List.set_cons_zero, List.set_cons_succ, i64_w, i32_w]
    rfl
  refine pure_ (i := 17) (N := some 24) (v := ?_) (a' := ?_) #[true, true, true, true, true, true, true, true, true, true, true, true, true, true, true, true, true, true, false, false] rfl rfl (by kernel_rfl) (fun _ _ _ h => h) (Or.inl ⟨by rfl, ?_⟩) ?_ ?_
  rotate_left
  · intro w'
    go_simp
    with_reducible rfl
  rotate_left
  · simp only [Act.put, List.setIfInBounds_toArray, List.set_cons_zero, List.set_cons_succ, i64_w, i32_w]
    rfl
  refine pure_ (i := 18) (N := some 25) (v := ?_) (a' := ?_) #[true, true, true, true, true, true, true, true, true, true, true, true, true, true, true, true, true, true, true, false] rfl rfl (by kernel_rfl) (fun _ _ _ h => h) (Or.inl ⟨by rfl, ?_⟩) ?_ ?_
  rotate_left
  · intro w'
    go_simp
    with_reducible rfl
  rotate_left
  · simp only [Act.put, List.setIfInBounds_toArray, List.set_cons_zero, List.set_cons_succ, i64_w, i32_w]
    rfl
  have fz0 := blk_frozen HB2.out 0
  refine last_ (i := 19) (N := none) #[true, true, true, true, true, true, true, true, true, true, true, true, true, true, true, true, true, true, true, true] rfl rfl (by kernel_rfl) (by decide) (fun K hK => ?_)
  refine skip_ (w1 := ?_) (by rfl) rfl ?_ ?_
  rotate_left
  · go_simp
    rfl
  refine hK.out _ _ ?_
  clear hK K
  refine done_ (by kernel_rfl) ?_
  have fz1 := blk_frozen HB2.out 1
  have fz2 := blk_frozen HB2.out 2
  go_wp2
  go_end0
  exact ⟨rfl, Sc.put2 HB2.out hg HS1.out HO1.out, ((HB1.out.setCell (by exact hg) _).setCell (by exact hg) _).setCell (by exact hg) _⟩

set_option maxHeartbeats 2000000 in
set_option maxRecDepth 100000 in
theorem quoted_end (w : World) (B g : Nat) (out : List S34) (text : List Int) (a q : Int) (n : Bool) (i : Int) (h : Sc w B g out text a q n) :
    Calls Try.prog 18 #[.pointer (some ⟨g, 0, none⟩), .int .i64 i, .int .u8 34] w fun e w' => e = .returned (.tuple #[]) ∧ ScPost w B g out text a (-1) n w' := by
  obtain ⟨vo, vt, hb, hg, hw, ho, ht⟩ := h
  have c3 : w.cell? ⟨g, 3, none⟩ = some (.int .i64 q) := (blk_cell hb 3).trans rfl
  have f3 := blk_frozen hb 3
  have HB := Aside0.mk hb
  clear hb
  go_enter Try.func18, Try.ntmps18
  go_wp2
  refine bodyPost_ret (v := .tuple #[]) (by simp [results, Try.results18, go_sem]) rfl ⟨rfl, ⟨vo, vt, by simpa using blk_set HB.out 3 (.int .i64 (-1)), hg, by simpa using hw, Kd.R_set ho HB.out (by decide) 3 _, Kd.R_set ht HB.out (by decide) 3 _⟩, (Below.refl _ _).setCell (by exact hg) _⟩

set_option maxHeartbeats 2000000 in
set_option maxRecDepth 100000 in
theorem quoted_more (w : World) (B g : Nat) (out : List S34) (text : List Int) (a q : Int) (n : Bool) (i c : Int) (h : Sc w B g out text a q n) (hc : c ≠ 34) (hl : text.length ≤ 1000) :
    Calls Try.prog 18 #[.pointer (some ⟨g, 0, none⟩), .int .i64 i, .int .u8 c] w fun e w' => e = .returned (.tuple #[]) ∧ ScPost w B g out (text ++ [c]) a q n w' := by
  obtain ⟨vo, vt, hb, hg, hw, ho, ht⟩ := h
  have c1 : w.cell? ⟨g, 1, none⟩ = some vt := (blk_cell hb 1).trans rfl
  have f1 := blk_frozen hb 1
  have e1 : (c == 34) = false := beq_eq_false_iff_ne.mpr hc
  have hne : some g ≠ vt.ownBlock := Kd.R_ne ht hb (by decide)
  have hon : Kd.R k34 34 w B (fun k => some k ≠ vt.ownBlock) vo out := by
    rcases hvo : vt.ownBlock with _ | b
    · exact Kd.R_mono ho (fun _ _ => by simp)
    · obtain ⟨inner, hown⟩ := Kd.R_own ht
      obtain ⟨cells, hcb⟩ := own_typed hown b hvo
      exact Kd.R_mono (Kd.R_types ho hcb (by decide)) (fun k hk => by simpa using hk.2)
  have HB := Aside0.mk hb
  have HO := Aside0.mk hon
  have HT := Aside0.mk ht
  have ND := Aside0.mk hne
  clear hb ho ht hne hon hc
  go_enter Try.func18, Try.ntmps18
  go_wp2_with (at_builtin; refine Kd.R_append (Kd.int .u8) (w0 := w) B (by rfl) (.tmp 15) (.tmp 17) 42 5 (.int .u8 0) 1 rfl Try.underlying42 lexer_info5 rfl (by decide) (by decide) vt text c [.int .u8 c] (fun _ => True) (fun _ => False) (by rfl) (by rfl) (by rfl) (fun _ hk => hk.elim) (fun _ _ => trivial) HT.out (Below.refl _ _) hw (by omega) ?_; intro v1 w1 ho1 hb1 hg1 hat1; have HB2 := Aside0.mk (blk_grown HB.out hg1 ND.out); have kc1 := hg1.cell c1 ND.out; have fz1 := blk_frozen HB2.out 1; have HO2 := Aside0.mk (Kd.R_grown HO.out hg1 (fun _ hk => hk)); obtain ⟨n2, A2, k2, rfl⟩ : ∃ n2 A2 k2, v1 = .slice A2 n2 k2 := (by obtain ⟨A2, k2, e2, _, _⟩ := Kd.R_reads ho1; exact ⟨_, A2, k2, e2⟩); have HO1 := Aside0.mk ho1; have HB1 := Aside0.mk hb1; have HS1 := Aside0.mk (Nat.le_trans hw hg1.size); clear ho1 hb1 hg1 hat1)
  go_end0
  refine ⟨rfl, ⟨vo, .slice A2 n2 k2, by simpa using blk_set HB2.out 1 (.slice A2 n2 k2), hg, by simpa using HS1.out, Kd.R_set (Kd.R_mono HO2.out (fun _ _ => trivial)) HB2.out (by decide) 1 _, Kd.R_set HO1.out HB2.out (by decide) 1 _⟩, HB1.out.setCell (by exact hg) _⟩

/-- what a scanner holds -/
structure St where
  out : List S34
  text : List Int
  a : Int
  q : Int
  n : Bool
def St.close (s : St) : St := ⟨if 0 ≤ s.a then s.out ++ [⟨strOfNums s.text, s.a⟩] else s.out, [], -1, s.q, s.n⟩
def St.open_ (s : St) (i : Int) : St := ⟨s.out, s.text, if s.a < 0 then i else s.a, s.q, s.n⟩
def St.plain (s : St) (i c : Int) : St :=
  if whB c = true then s.close else if c = 35 then ⟨s.close.out, [], -1, s.q, true⟩ else
  if c = 34 then ⟨s.out, s.text, (s.open_ i).a, i, s.n⟩ else ⟨s.out, s.text ++ [c], (s.open_ i).a, s.q, s.n⟩
def St.quoted (s : St) (c : Int) : St := if c = 34 then ⟨s.out, s.text, s.a, -1, s.n⟩ else ⟨s.out, s.text ++ [c], s.a, s.q, s.n⟩
def St.step (s : St) (i c : Int) : St := if 0 ≤ s.q then s.quoted c else s.plain i c
def Scs (w : World) (B g : Nat) (s : St) : Prop := Sc w B g s.out s.text s.a s.q s.n
def ScsPost (w : World) (B g : Nat) (s : St) (w' : World) : Prop := Scs w' B g s ∧ Below B w w'

theorem close_any (w : World) (B g : Nat) (s : St) (h : Scs w B g s) (hl : s.out.length ≤ 1000) :
    Calls Try.prog 19 #[.pointer (some ⟨g, 0, none⟩)] w fun e w' => e = .returned (.tuple #[]) ∧ ScsPost w B g s.close w' := by
  by_cases ha : 0 ≤ s.a
  · refine (close_yes w B g s.out s.text s.a s.q s.n h ha hl).mono fun e w' hh => ?_
    have e : s.close = ⟨s.out ++ [⟨strOfNums s.text, s.a⟩], [], -1, s.q, s.n⟩ := by unfold St.close; rw [if_pos ha]
    rw [e]; exact hh
  · refine (close_no w B g s.out s.text s.a s.q s.n h (by omega)).mono fun e w' hh => ?_
    have e : s.close = ⟨s.out, [], -1, s.q, s.n⟩ := by unfold St.close; rw [if_neg ha]
    rw [e]; exact hh
theorem quoted_any (w : World) (B g : Nat) (s : St) (i c : Int) (h : Scs w B g s) (hl : s.text.length ≤ 1000) :
    Calls Try.prog 18 #[.pointer (some ⟨g, 0, none⟩), .int .i64 i, .int .u8 c] w fun e w' => e = .returned (.tuple #[]) ∧ ScsPost w B g (s.quoted c) w' := by
  by_cases hc : c = 34
  · subst hc
    exact quoted_end w B g s.out s.text s.a s.q s.n i h
  · refine (quoted_more w B g s.out s.text s.a s.q s.n i c h hc hl).mono fun e w' hh => ?_
    have e : s.quoted c = ⟨s.out, s.text ++ [c], s.a, s.q, s.n⟩ := by unfold St.quoted; rw [if_neg hc]
    rw [e]; exact hh

set_option maxHeartbeats 2000000 in
set_option maxRecDepth 100000 in
theorem plain_white (w : World) (B g : Nat) (s : St) (i c : Int) (h : Scs w B g s) (hl : s.out.length ≤ 1000) (hc : whB c = true) :
    Calls Try.prog 17 #[.pointer (some ⟨g, 0, none⟩), .int .i64 i, .int .u8 c] w fun e w' => e = .returned (.tuple #[]) ∧ ScsPost w B g s.close w' := by
  have HC := Aside0.mk hc
  have HS := Aside0.mk h
  clear hc h
  go_enter Try.func17, Try.ntmps17
  go_wp2_with (first | (go_at_call 23; (with_reducible refine (white_any _ _).mono ?_); rintro e w' ⟨rfl, rfl⟩; rw [HC.out]) | (go_at_call 19; (with_reducible refine (close_any _ B g s HS.out hl).mono ?_); rintro e w' ⟨rfl, hp⟩))
  exact bodyPost_ret (v := .tuple #[]) (by simp [results, Try.results17, go_sem]) rfl ⟨rfl, hp⟩

theorem St.close_a (s : St) : s.close.a = -1 := rfl
theorem St.close_q (s : St) : s.close.q = s.q := rfl
theorem St.close_text (s : St) : s.close.text = [] := rfl
set_option maxHeartbeats 2000000 in
set_option maxRecDepth 100000 in
theorem plain_note (w : World) (B g : Nat) (s : St) (i : Int) (h : Scs w B g s) (hl : s.out.length ≤ 1000) :
    Calls Try.prog 17 #[.pointer (some ⟨g, 0, none⟩), .int .i64 i, .int .u8 35] w fun e w' => e = .returned (.tuple #[]) ∧ ScsPost w B g ⟨s.close.out, [], -1, s.q, true⟩ w' := by
  have HC := Aside0.mk (show whB 35 = false by decide)
  have HS := Aside0.mk h
  clear h
  go_enter Try.func17, Try.ntmps17
  go_wp2_with (first | (go_at_call 23; (with_reducible refine (white_any _ _).mono ?_); rintro e w' ⟨rfl, rfl⟩; rw [HC.out]) | (go_at_call 19; (with_reducible refine (close_any _ B g s HS.out hl).mono ?_); rintro e w1 ⟨rfl, hp⟩; obtain ⟨⟨vo, vt, hb, hg, hw, ho, ht⟩, hbl⟩ := hp; have HB := Aside0.mk hb; have kc4 : w1.cell? ⟨g, 4, none⟩ = some (.bool s.n) := (blk_cell hb 4).trans rfl; have kf4 := blk_frozen hb 4; clear hb))
  refine bodyPost_ret (v := .tuple #[]) (by simp [results, Try.results17, go_sem]) rfl ⟨rfl, ⟨vo, vt, by simpa [St.close_a, St.close_q] using blk_set HB.out 4 (.bool true), hg, by simpa using hw, Kd.R_set ho HB.out (by decide) 4 _, Kd.R_set ht HB.out (by decide) 4 _⟩, hbl.setCell (by exact hg) _⟩


set_option maxHeartbeats 2000000 in
set_option maxRecDepth 100000 in
theorem plain_quote (w : World) (B g : Nat) (s : St) (i : Int) (h : Scs w B g s) :
    Calls Try.prog 17 #[.pointer (some ⟨g, 0, none⟩), .int .i64 i, .int .u8 34] w fun e w' => e = .returned (.tuple #[]) ∧ ScsPost w B g ⟨s.out, s.text, (s.open_ i).a, i, s.n⟩ w' := by
  have HC := Aside0.mk (show whB 34 = false by decide)
  obtain ⟨vo, vt, hb, hg, hw, ho, ht⟩ := h
  have k2 : w.cell? ⟨g, 2, none⟩ = some (.int .i64 s.a) := (blk_cell hb 2).trans rfl
  have k3 : w.cell? ⟨g, 3, none⟩ = some (.int .i64 s.q) := (blk_cell hb 3).trans rfl
  have f2 := blk_frozen hb 2
  have f3 := blk_frozen hb 3
  have HB := Aside0.mk hb
  clear hb
  by_cases ha : s.a < 0
  · have e : (s.open_ i).a = i := by unfold St.open_; rw [if_pos ha]
    have E := Aside0.mk e
    have ca : decide (s.a < 0) = true := decide_eq_true ha
    clear ha e
    go_enter Try.func17, Try.ntmps17
    go_wp2_with (first | (go_at_call 23; (with_reducible refine (white_any _ _).mono ?_); rintro e w' ⟨rfl, rfl⟩; rw [HC.out]))
    refine bodyPost_ret (v := .tuple #[]) (by simp [results, Try.results17, go_sem]) rfl ⟨rfl, ⟨vo, vt, by simpa [E.out] using blk_set (blk_set HB.out 2 (.int .i64 i)) 3 (.int .i64 i), hg, by simpa using hw, Kd.R_set (Kd.R_set ho HB.out (by decide) 2 _) (blk_set HB.out 2 (.int .i64 i)) (by decide) 3 _, Kd.R_set (Kd.R_set ht HB.out (by decide) 2 _) (blk_set HB.out 2 (.int .i64 i)) (by decide) 3 _⟩, ((Below.refl _ _).setCell (by exact hg) _).setCell (by exact hg) _⟩
  · have e : (s.open_ i).a = s.a := by unfold St.open_; rw [if_neg ha]
    have E := Aside0.mk e
    have ca : decide (s.a < 0) = false := decide_eq_false ha
    clear ha e
    go_enter Try.func17, Try.ntmps17
    go_wp2_with (first | (go_at_call 23; (with_reducible refine (white_any _ _).mono ?_); rintro e w' ⟨rfl, rfl⟩; rw [HC.out]))
    refine bodyPost_ret (v := .tuple #[]) (by simp [results, Try.results17, go_sem]) rfl ⟨rfl, ⟨vo, vt, by simpa [E.out] using blk_set HB.out 3 (.int .i64 i), hg, by simpa using hw, Kd.R_set ho HB.out (by decide) 3 _, Kd.R_set ht HB.out (by decide) 3 _⟩, (Below.refl _ _).setCell (by exact hg) _⟩

/-- the text grows at a scanner whose block is known -/
def ArmOut (w1 : World) (B g : Nat) (vo : Value) (out : List S34) (text : List Int) (a q : Int) (n : Bool) : Prop := Sc w1 B g out text a q n
set_option maxHeartbeats 4000000 in
set_option maxRecDepth 100000 in
theorem plain_text (w : World) (B g : Nat) (s : St) (i c : Int) (h : Scs w B g s) (hl : s.text.length ≤ 1000) (hc1 : whB c = false) (hc2 : c ≠ 35) (hc3 : c ≠ 34) :
    Calls Try.prog 17 #[.pointer (some ⟨g, 0, none⟩), .int .i64 i, .int .u8 c] w fun e w' => e = .returned (.tuple #[]) ∧ ScsPost w B g ⟨s.out, s.text ++ [c], (s.open_ i).a, s.q, s.n⟩ w' := by
  have HC := Aside0.mk hc1
  have e2 : (c == 35) = false := beq_eq_false_iff_ne.mpr hc2
  have e3 : (c == 34) = false := beq_eq_false_iff_ne.mpr hc3
  clear hc1 hc2 hc3
  obtain ⟨vo, vt, hb, hg, hw, ho, ht⟩ := h
  have k1 : w.cell? ⟨g, 1, none⟩ = some vt := (blk_cell hb 1).trans rfl
  have k2 : w.cell? ⟨g, 2, none⟩ = some (.int .i64 s.a) := (blk_cell hb 2).trans rfl
  have f1 := blk_frozen hb 1
  have f2 := blk_frozen hb 2
  have hon : ∀ {w : World}, Kd.R k34 34 w B (fun _ => True) vo s.out → Kd.R (Kd.int .u8) 5 w B (fun _ => True) vt s.text → Kd.R k34 34 w B (fun k => some k ≠ vt.ownBlock) vo s.out := by
    intro w ho ht
    rcases hvo : vt.ownBlock with _ | b
    · exact Kd.R_mono ho (fun _ _ => by simp)
    · obtain ⟨inner, hown⟩ := Kd.R_own ht
      obtain ⟨cells, hcb⟩ := own_typed hown b hvo
      exact Kd.R_mono (Kd.R_types ho hcb (by decide)) (fun k hk => by simpa using hk.2)
  by_cases ha : s.a < 0
  · have e : (s.open_ i).a = i := by unfold St.open_; rw [if_pos ha]
    have E := Aside0.mk e
    have ca : decide (s.a < 0) = true := decide_eq_true ha
    have hb2 := blk_set hb 2 (.int .i64 i)
    have HO := Aside0.mk (Kd.R_set (hon ho ht) hb (by decide) 2 (.int .i64 i))
    have HT := Aside0.mk (Kd.R_set ht hb (by decide) 2 (.int .i64 i))
    have ND := Aside0.mk (Kd.R_ne HT.out hb2 (by decide))
    have kk1 : (w.setCell ⟨g, 2, none⟩ (.int .i64 i)).cell? ⟨g, 1, none⟩ = some vt := (blk_cell hb2 1).trans rfl
    have HB := Aside0.mk hb2
    have K1 := Aside0.mk kk1
    have HW := Aside0.mk (show B ≤ (w.setCell ⟨g, 2, none⟩ (.int .i64 i)).heap.size by simpa using hw)
    clear ha e hb hb2 ho ht hon kk1 hw
    go_enter Try.func17, Try.ntmps17
    go_wp2_with (first | (go_at_call 23; (with_reducible refine (white_any _ _).mono ?_); rintro e w' ⟨rfl, rfl⟩; rw [HC.out]) | (at_builtin; refine Kd.R_append (Kd.int .u8) (w0 := w) (W := w.setCell ⟨g, 2, none⟩ (.int .i64 i)) B (by rfl) (.tmp 38) (.tmp 40) 42 5 (.int .u8 0) 1 rfl Try.underlying42 lexer_info5 rfl (by decide) (by decide) vt s.text c [.int .u8 c] (fun _ => True) (fun _ => False) (by rfl) (by simp [Act.eval]) (by rfl) (fun _ hk => hk.elim) (fun _ _ => trivial) HT.out ((Below.refl _ _).setCell (by exact hg) _) HW.out (by omega) ?_; intro v1 w1 ho1 hb1 hg1 hat1; have HB2 := Aside0.mk (blk_grown HB.out hg1 ND.out); have kc1 := hg1.cell K1.out ND.out; have fz1 := blk_frozen HB2.out 1; have HO2 := Aside0.mk (Kd.R_grown HO.out hg1 (fun _ hk => hk)); obtain ⟨n2, A2, k2, rfl⟩ : ∃ n2 A2 k2, v1 = .slice A2 n2 k2 := (by obtain ⟨A2, k2, e2, _, _⟩ := Kd.R_reads ho1; exact ⟨_, A2, k2, e2⟩); have HO1 := Aside0.mk ho1; have HB1 := Aside0.mk hb1; have HS1 := Aside0.mk (Nat.le_trans HW.out hg1.size); clear ho1 hb1 hg1 hat1))
    go_end0
    refine ⟨rfl, ⟨vo, .slice A2 n2 k2, by simpa [E.out] using blk_set HB2.out 1 (.slice A2 n2 k2), hg, by simpa using HS1.out, Kd.R_set (Kd.R_mono HO2.out (fun _ _ => trivial)) HB2.out (by decide) 1 _, Kd.R_set HO1.out HB2.out (by decide) 1 _⟩, HB1.out.setCell (by exact hg) _⟩
  · have e : (s.open_ i).a = s.a := by unfold St.open_; rw [if_neg ha]
    have E := Aside0.mk e
    have ca : decide (s.a < 0) = false := decide_eq_false ha
    have HO := Aside0.mk (hon ho ht)
    have HT := Aside0.mk ht
    have ND := Aside0.mk (Kd.R_ne ht hb (by decide))
    have HB := Aside0.mk hb
    clear ha e hb ho ht hon
    go_enter Try.func17, Try.ntmps17
    go_wp2_with (first | (go_at_call 23; (with_reducible refine (white_any _ _).mono ?_); rintro e w' ⟨rfl, rfl⟩; rw [HC.out]) | (at_builtin; refine Kd.R_append (Kd.int .u8) (w0 := w) B (by rfl) (.tmp 38) (.tmp 40) 42 5 (.int .u8 0) 1 rfl Try.underlying42 lexer_info5 rfl (by decide) (by decide) vt s.text c [.int .u8 c] (fun _ => True) (fun _ => False) (by rfl) (by rfl) (by rfl) (fun _ hk => hk.elim) (fun _ _ => trivial) HT.out (Below.refl _ _) hw (by omega) ?_; intro v1 w1 ho1 hb1 hg1 hat1; have HB2 := Aside0.mk (blk_grown HB.out hg1 ND.out); have kc1 := hg1.cell k1 ND.out; have fz1 := blk_frozen HB2.out 1; have HO2 := Aside0.mk (Kd.R_grown HO.out hg1 (fun _ hk => hk)); obtain ⟨n2, A2, k2, rfl⟩ : ∃ n2 A2 k2, v1 = .slice A2 n2 k2 := (by obtain ⟨A2, k2, e2, _, _⟩ := Kd.R_reads ho1; exact ⟨_, A2, k2, e2⟩); have HO1 := Aside0.mk ho1; have HB1 := Aside0.mk hb1; have HS1 := Aside0.mk (Nat.le_trans hw hg1.size); clear ho1 hb1 hg1 hat1))
    go_end0
    refine ⟨rfl, ⟨vo, .slice A2 n2 k2, by simpa [E.out] using blk_set HB2.out 1 (.slice A2 n2 k2), hg, by simpa using HS1.out, Kd.R_set (Kd.R_mono HO2.out (fun _ _ => trivial)) HB2.out (by decide) 1 _, Kd.R_set HO1.out HB2.out (by decide) 1 _⟩, HB1.out.setCell (by exact hg) _⟩

theorem plain_any (w : World) (B g : Nat) (s : St) (i c : Int) (h : Scs w B g s) (hl : s.out.length ≤ 1000) (hl2 : s.text.length ≤ 1000) :
    Calls Try.prog 17 #[.pointer (some ⟨g, 0, none⟩), .int .i64 i, .int .u8 c] w fun e w' => e = .returned (.tuple #[]) ∧ ScsPost w B g (s.plain i c) w' := by
  unfold St.plain
  by_cases h1 : whB c = true
  · rw [if_pos h1]; exact plain_white w B g s i c h hl h1
  rw [if_neg h1]
  by_cases h2 : c = 35
  · rw [if_pos h2]; subst h2; exact plain_note w B g s i h hl
  rw [if_neg h2]
  by_cases h3 : c = 34
  · rw [if_pos h3]; subst h3; exact plain_quote w B g s i h
  rw [if_neg h3]
  exact plain_text w B g s i c h hl2 (by simpa using h1) h2 h3


def St.init : St := ⟨[], [], -1, -1, false⟩
def scan : Nat → ByteArray → Int → St → St
  | 0, _, _, s => s
  | k + 1, b, i, s => if s.n = true then s else scan k b (i + 1) (s.step i (bt b i))
def lexer_Fields.f (a0 : ByteArray) : Option (List (S34) × Int × Int) :=
  if (a0.size : Int) > 200 then some ([], 0, 17) else
  if 0 ≤ (scan a0.size a0 0 St.init).q then some ([], (scan a0.size a0 0 St.init).q, 9) else some ((scan a0.size a0 0 St.init).close.out, 0, 0)
theorem St.close_len (s : St) : s.close.out.length ≤ s.out.length + 1 := by unfold St.close; split <;> simp
theorem St.step_len (s : St) (i c : Int) : (s.step i c).out.length ≤ s.out.length + 1 ∧ (s.step i c).text.length ≤ s.text.length + 1 := by
  have h := s.close_len
  unfold St.step St.quoted St.plain
  repeat' split
  all_goals simp [St.close_text]
  all_goals omega
def FieldsPost (w : World) (r1 : List S34) (r2 r3 : Int) (e : Ending) (w' : World) : Prop :=
  ∃ v0_ : Value, e = .returned (.tuple #[v0_, .int .i64 r2, .int .i64 r3]) ∧ Kd.R k34 34 w' w.heap.size (fun _ => True) v0_ r1 ∧ Below w.heap.size w w'

set_option maxHeartbeats 4000000 in
set_option maxRecDepth 100000 in
theorem lexer_Fields.walk (a0 : ByteArray) (w : World) (hz : a0.size ≤ 200) (sF : St) (hF : scan a0.size a0 0 St.init = sF) (r1 : List S34) (r2 r3 : Int)
    (h1 : 0 ≤ sF.q → r1 = [] ∧ r2 = sF.q ∧ r3 = 9) (h2 : ¬ 0 ≤ sF.q → r1 = sF.close.out ∧ r2 = 0 ∧ r3 = 0) :
    Calls Try.prog 10 #[.string a0] w (FieldsPost w r1 r2 r3) := by
  have H1 := Aside0.mk h1
  have H2 := Aside0.mk h2
  have HF := Aside0.mk hF
  clear h1 h2 hF
  have hmf : ∀ (fn : Fn) (first cap : Array Value) (w : World), (Instr.makeFunc fn first cap).run Try.prog w = .ok (.func fn first cap) w := fun _ _ _ _ => rfl
  have hz' : ¬ (200 : Int) < (a0.size : Int) := by omega
  go_enter Try.func10, Try.ntmps10
  go_wp2
  go_loopg [6, 7] a0.size (fun kq v6 v7 w' => ∃ (s : St) (i : Nat), v6 = .int .i64 i ∧ Aside0 (i + kq = a0.size) ∧ Aside0 (scan kq a0 i s = sF) ∧ Aside0 (Scs w' w.heap.size w.heap.size s) ∧ Aside0 (s.out.length ≤ i ∧ s.text.length ≤ i) ∧ Aside0 (Below w.heap.size w w'))
  case atStart =>
    exact ⟨St.init, 0, rfl, ⟨by omega⟩, HF, ⟨⟨.slice none 0 0, .slice none 0 0, heap_alloc_new w _, Nat.le_refl _, by simp, Kd.R_nil _ _ _ _ _, Kd.R_nil _ _ _ _ _⟩⟩, ⟨by simp [St.init]⟩, ⟨below_alloc (Below.refl _ _) _⟩⟩
  case round =>
    obtain ⟨s, i, rfl, HI, HSC, HS, HL, HB⟩ := hrel
    have hs' := HS.out
    obtain ⟨vo, vt, hb, hg, hw, ho, ht⟩ := hs'
    have k0 : wr.cell? ⟨w.heap.size, 0, none⟩ = some vo := (blk_cell hb 0).trans rfl
    have k3 : wr.cell? ⟨w.heap.size, 3, none⟩ = some (.int .i64 s.q) := (blk_cell hb 3).trans rfl
    have k4 : wr.cell? ⟨w.heap.size, 4, none⟩ = some (.bool s.n) := (blk_cell hb 4).trans rfl
    have hi := HI.out
    clear hb hg hw ho ht
    by_cases hlast : gk = 0 ∨ s.n = true
    · have hs : s = sF := by
        have := HSC.out
        rcases hlast with h0 | h0
        · subst h0; exact this
        · cases gk with
          | zero => exact this
          | succ k => rw [← this]; unfold scan; rw [if_pos h0]
      have htest : decide (i < a0.size) = false ∨ (decide (i < a0.size) = true ∧ s.n = true) := by
        rcases hlast with h0 | h0
        · left; exact decide_eq_false (by omega)
        · by_cases h : i < a0.size
          · exact Or.inr ⟨decide_eq_true h, h0⟩
          · exact Or.inl (decide_eq_false h)
      subst hs
      clear hlast HF HSC hmf
      have HI2 := Aside0.mk hi
      by_cases hq : 0 ≤ s.q
      · obtain ⟨rfl, rfl, rfl⟩ := H1.out hq
        clear H1 H2
        have dq : decide (0 ≤ s.q) = true := decide_eq_true hq
        rcases htest with h1 | ⟨h1, h2⟩
        · clear hi
          go_wp2_with fail
          go_quiet (fail)
          go_wp2
          go_ret3
          exact ⟨_, rfl, Kd.R_nil _ _ _ _ _, by repeat (first | exact HB.out | apply pw_below_drewN)⟩
        · rw [h2] at k4
          clear hi h2
          go_wp2_with fail
          go_quiet (fail)
          go_wp2
          go_ret3
          exact ⟨_, rfl, Kd.R_nil _ _ _ _ _, by repeat (first | exact HB.out | apply pw_below_drewN)⟩
      · obtain ⟨rfl, rfl, rfl⟩ := H2.out (by omega)
        clear H1 H2
        have dq : decide (0 ≤ s.q) = false := decide_eq_false hq
        rcases htest with h1 | ⟨h1, h2⟩
        · clear hi
          go_wp2_with (go_at_call 19; (with_reducible refine (close_any _ w.heap.size w.heap.size s HS.out (by have := HL.out; have := HI2.out; omega)).mono ?_); rintro e w1 ⟨rfl, ⟨⟨vo1, vt1, hb1, hg1, hw1, ho1, ht1⟩, hbl⟩⟩; have kk0 : w1.cell? ⟨w.heap.size, 0, none⟩ = some vo1 := (blk_cell hb1 0).trans rfl; have HR1 := Aside0.mk ho1; have HB1 := Aside0.mk (below_weaken HB.out (Nat.le_refl _) hbl); clear hb1 hg1 hw1 ho1 ht1 hbl)
          go_ret3
          exact ⟨_, rfl, HR1.out, HB1.out⟩
        · rw [h2] at k4
          clear hi h2
          go_wp2_with (go_at_call 19; (with_reducible refine (close_any _ w.heap.size w.heap.size s HS.out (by have := HL.out; have := HI2.out; omega)).mono ?_); rintro e w1 ⟨rfl, ⟨⟨vo1, vt1, hb1, hg1, hw1, ho1, ht1⟩, hbl⟩⟩; have kk0 : w1.cell? ⟨w.heap.size, 0, none⟩ = some vo1 := (blk_cell hb1 0).trans rfl; have HR1 := Aside0.mk ho1; have HB1 := Aside0.mk (below_weaken HB.out (Nat.le_refl _) hbl); clear hb1 hg1 hw1 ho1 ht1 hbl)
          go_ret3
          exact ⟨_, rfl, HR1.out, HB1.out⟩
    · obtain ⟨k, rfl⟩ : ∃ k, gk = k + 1 := ⟨gk - 1, by omega⟩
      have hn : s.n = false := by
        rcases hv : s.n with _ | _
        · rfl
        · exact absurd (Or.inr hv) hlast
      rw [hn] at k4
      have HSC2 : Aside0 (scan k a0 (i + 1) (s.step i (bt a0 i)) = sF) := by
        have := HSC.out
        unfold scan at this
        rw [hn] at this
        exact ⟨by simpa using this⟩
      have q1 : i < a0.size := by omega
      have h1 : decide (i < a0.size) = true := decide_eq_true q1
      have HX : Aside0 (bt a0 i = ((a0[i]'q1).toNat : Int)) := ⟨by simp [bt, q1]⟩
      have HI2 := Aside0.mk hi
      have hll := s.step_len i (bt a0 i)
      have HLL := Aside0.mk hll
      clear hlast HF HSC hi hn hll H1 H2
      by_cases hq : 0 ≤ s.q
      · have dq : decide (0 ≤ s.q) = true := decide_eq_true hq
        have HST : Aside0 (s.step i (bt a0 i) = s.quoted (bt a0 i)) := ⟨by unfold St.step; rw [if_pos hq]⟩
        clear hq
        go_wp2_with (go_at_call 18; (with_reducible refine (quoted_any _ w.heap.size w.heap.size s _ _ HS.out (by have := HL.out; have := HI2.out; omega)).mono ?_); rintro e w1 ⟨rfl, hp⟩)
        go_roundg k
        case measure => omega
        case rel => exact ⟨s.step i (bt a0 i), i + 1, by go_num, ⟨by have := HI2.out; omega⟩, HSC2, ⟨by rw [HST.out, HX.out]; exact hp.1⟩, ⟨by have := HL.out; have := HLL.out; omega⟩, ⟨below_weaken HB.out (Nat.le_refl _) hp.2⟩⟩
      · have dq : decide (0 ≤ s.q) = false := decide_eq_false hq
        have HST : Aside0 (s.step i (bt a0 i) = s.plain i (bt a0 i)) := ⟨by unfold St.step; rw [if_neg hq]⟩
        clear hq
        go_wp2_with (go_at_call 17; (with_reducible refine (plain_any _ w.heap.size w.heap.size s _ _ HS.out (by have := HL.out; have := HI2.out; omega) (by have := HL.out; have := HI2.out; omega)).mono ?_); rintro e w1 ⟨rfl, hp⟩)
        go_roundg k
        case measure => omega
        case rel => exact ⟨s.step i (bt a0 i), i + 1, by go_num, ⟨by have := HI2.out; omega⟩, HSC2, ⟨by rw [HST.out, HX.out]; exact hp.1⟩, ⟨by have := HL.out; have := HLL.out; omega⟩, ⟨below_weaken HB.out (Nat.le_refl _) hp.2⟩⟩

theorem lexer_Fields.calls (a0 : ByteArray) (r1 : List (S34)) (r2 : Int) (r3 : Int) (w : World) (h : lexer_Fields.f a0 = some (r1, r2, r3)) :
    Calls Try.prog 10 #[.string a0] w fun e w' => ∃ v0_ : Value, e = .returned (.tuple #[v0_, .int .i64 r2, .int .i64 r3]) ∧ Kd.R k34 34 w' w.heap.size (fun _ => True) v0_ r1 ∧ Below w.heap.size w w' := by
  unfold lexer_Fields.f at h
  by_cases hz : (a0.size : Int) > 200
  · rw [if_pos hz] at h
    obtain ⟨rfl, rfl, rfl⟩ : r1 = [] ∧ r2 = 0 ∧ r3 = 17 := by have g := Option.some.inj h; simp only [Prod.mk.injEq] at g; exact ⟨g.1.symm, g.2.1.symm, g.2.2.symm⟩
    clear h
    have hz' : (200 : Int) < (a0.size : Int) := hz
    clear hz
    go_enter Try.func10, Try.ntmps10
    go_wp2
    go_ret3
    exact ⟨_, rfl, Kd.R_nil _ _ _ _ _, Below.refl _ _⟩
  · rw [if_neg hz] at h
    refine lexer_Fields.walk a0 w (by omega) _ rfl r1 r2 r3 (fun hq => ?_) (fun hq => ?_)
    · rw [if_pos hq] at h; have g := Option.some.inj h; simp only [Prod.mk.injEq] at g; exact ⟨g.1.symm, g.2.1.symm, g.2.2.symm⟩
    · rw [if_neg hq] at h; have g := Option.some.inj h; simp only [Prod.mk.injEq] at g; exact ⟨g.1.symm, g.2.1.symm, g.2.2.symm⟩

/-! ### noonmarklaw07_alive: function 9 -/
def noonmarklaw07_alive.f  : Option (Bool) := (lexer_Fields.f (⟨#[97, 32, 34, 98, 32, 99, 34, 100, 32, 35, 32, 101]⟩ : ByteArray)).bind fun bt101 => (if bt101.2.2 = 0 then (if (bt101.1.length : Int) = 2 then (if 0 < (bt101.1.length : Int) then (if ((rd_T34 bt101.1 0).f0).toList = ([97] : List UInt8) then (if 1 < (bt101.1.length : Int) then (if ((rd_T34 bt101.1 1).f0).toList = ([98, 32, 99, 100] : List UInt8) then (some (((rd_T34 bt101.1 1).f1) == 2)) else (some false)) else (none)) else (some false)) else (none)) else (some false)) else (some false))
set_option maxHeartbeats 8000000 in
set_option maxRecDepth 100000 in
theorem noonmarklaw07_alive.calls  (r : Bool) (w : World) (h : noonmarklaw07_alive.f  = some r) :
    Calls Try.prog 9 #[] w fun e w' => e = .returned (.bool r) ∧ Below w.heap.size w w' := by
  have HB := Aside0.mk (Below.refl w.heap.size w)
  have H : ((lexer_Fields.f (⟨#[97, 32, 34, 98, 32, 99, 34, 100, 32, 35, 32, 101]⟩ : ByteArray)).bind fun bt101 => (if bt101.2.2 = 0 then (if (bt101.1.length : Int) = 2 then (if 0 < (bt101.1.length : Int) then (if ((rd_T34 bt101.1 0).f0).toList = ([97] : List UInt8) then (if 1 < (bt101.1.length : Int) then (if ((rd_T34 bt101.1 1).f0).toList = ([98, 32, 99, 100] : List UInt8) then (some (((rd_T34 bt101.1 1).f1) == 2)) else (some false)) else (none)) else (some false)) else (none)) else (some false)) else (some false))) = some r := h
  clear h
  replace H := Option.bind_eq_some_iff.mp H
  obtain ⟨⟨t101, t102, t103⟩, A10, H⟩ := H
  replace H : (if t103 = 0 then (if (t101.length : Int) = 2 then (if 0 < (t101.length : Int) then (if ((rd_T34 t101 0).f0).toList = ([97] : List UInt8) then (if 1 < (t101.length : Int) then (if ((rd_T34 t101 1).f0).toList = ([98, 32, 99, 100] : List UInt8) then (some (((rd_T34 t101 1).f1) == 2)) else (some false)) else (none)) else (some false)) else (none)) else (some false)) else (some false)) = some r := H
  have A1 := Aside0.mk A10
  clear A10
  by_cases c2 : t103 = 0
  · rw [if_pos c2] at H
    have c2b0 : (t103 == 0) = true := beq_iff_eq.mpr c2
    have c2b1 : (t103 != 0) = false := bne_eq_false_iff_eq.mpr c2
    clear c2
    by_cases c3 : (t101.length : Int) = 2
    · rw [if_pos c3] at H
      have c3b0 : ((t101.length : Int) == 2) = true := beq_iff_eq.mpr c3
      have c3b1 : ((t101.length : Int) != 2) = false := bne_eq_false_iff_eq.mpr c3
      clear c3
      by_cases c4 : 0 < (t101.length : Int)
      · rw [if_pos c4] at H
        have c4b0 : decide (0 < (t101.length : Int)) = true := decide_eq_true c4
        have c4b1 : decide (0 < t101.length) = true := decide_eq_true (by omega)
        clear c4
        by_cases c5 : ((rd_T34 t101 0).f0).toList = ([97] : List UInt8)
        · rw [if_pos c5] at H
          have c5b0 : (((rd_T34 t101 0).f0).toList == ([97] : List UInt8)) = true := beq_iff_eq.mpr c5
          have c5b1 : (((rd_T34 t101 0).f0).toList != ([97] : List UInt8)) = false := bne_eq_false_iff_eq.mpr c5
          clear c5
          by_cases c6 : 1 < (t101.length : Int)
          · rw [if_pos c6] at H
            have c6b0 : decide (1 < (t101.length : Int)) = true := decide_eq_true c6
            have c6b1 : decide (1 < t101.length) = true := decide_eq_true (by omega)
            clear c6
            by_cases c7 : ((rd_T34 t101 1).f0).toList = ([98, 32, 99, 100] : List UInt8)
            · rw [if_pos c7] at H
              have c7b0 : (((rd_T34 t101 1).f0).toList == ([98, 32, 99, 100] : List UInt8)) = true := beq_iff_eq.mpr c7
              have c7b1 : (((rd_T34 t101 1).f0).toList != ([98, 32, 99, 100] : List UInt8)) = false := bne_eq_false_iff_eq.mpr c7
              clear c7
              obtain rfl := Option.some.inj H
              go_enter Try.func9, Try.ntmps9
              go_wp2_with (first | ((with_reducible refine gate_callee (f := 10) rfl ?_); refine goesL_ (some 5) rfl rfl Try.func10 (by kernel_rfl) rfl #[.string (⟨#[97, 32, 34, 98, 32, 99, 34, 100, 32, 35, 32, 101]⟩ : ByteArray)] rfl (by (try simp only [List.map_toArray, List.map_cons, List.map_nil]); first | done | rfl | (simp only [List.length_drop, List.length_take]; rfl)) ?_; (with_reducible refine (lexer_Fields.calls (⟨#[97, 32, 34, 98, 32, 99, 34, 100, 32, 35, 32, 101]⟩ : ByteArray) t101 t102 t103 _ A1.out).mono ?_); rintro e w8 ⟨v104, rfl, ho0, hb⟩; refine ⟨_, rfl, ?_⟩; have n0_ := Aside0.mk (Kd.R_lower ho0 (below_size (by repeat (first | (with_reducible first | exact HB.out | apply below_alloc | apply pw_below_drewN | apply below_drew1) | exact HB.out)))); have n1_ := Aside0.mk (below_step (by repeat (first | (with_reducible first | exact HB.out | apply below_alloc | apply pw_below_drewN | apply below_drew1) | exact HB.out)) hb); clear HB; have HO105 := n0_; have HB := n1_; clear n0_ n1_; (try clear hb); (try clear hb2); (try clear hk); (try clear hi); (try clear ho0); obtain ⟨Ao9, co9, eo9⟩ := Kd.R_slice HO105.out; subst eo9; have p106 : 0 ≤ (0 : Int) := (by omega); have q106 : 0 < (t101.length : Int) := of_decide_eq_true (by first | (with_reducible assumption) | assumption); obtain ⟨ad106, e106, hx106_0, hx106_1⟩ := at_T34 (Kd.R_reads' HO105.out).2.2 0 p106 q106; cases e106; have qi106 : (0 < t101.length) = True := eq_true (by omega); (try rw [show ((0 : Int)).toNat = 0 from rfl] at hx106_0); (try rw [show 0 * 2 = 0 from rfl] at hx106_0); (try rw [Addr.add_zero'] at hx106_0); (try rw [show ((0 : Int)).toNat = 0 from rfl] at hx106_1); (try rw [show 0 * 2 = 0 from rfl] at hx106_1); (try rw [Addr.add_zero'] at hx106_1); replace p106 := eq_true p106; replace q106 := eq_true q106; have p107 : 0 ≤ (1 : Int) := (by omega); have q107 : 1 < (t101.length : Int) := of_decide_eq_true (by first | (with_reducible assumption) | assumption); obtain ⟨ad107, e107, hx107_0, hx107_1⟩ := at_T34 (Kd.R_reads' HO105.out).2.2 1 p107 q107; obtain rfl : ad106 = ad107 := (by injection e107); (try simp only [show (1 : Int).toNat = 1 from rfl, Nat.reduceMul, Nat.reduceEqDiff, Go.Addr.add, ↓reduceIte] at hx107_0); (try simp only [show (1 : Int).toNat = 1 from rfl, Nat.reduceMul, Nat.reduceEqDiff, Go.Addr.add, ↓reduceIte] at hx107_1); have qi107 : (1 < t101.length) = True := eq_true (by omega); (try rw [show ((1 : Int)).toNat = 1 from rfl] at hx107_0); (try rw [show 1 * 2 = 2 from rfl] at hx107_0); (try rw [show ((1 : Int)).toNat = 1 from rfl] at hx107_1); (try rw [show 1 * 2 = 2 from rfl] at hx107_1); replace p107 := eq_true p107; replace q107 := eq_true q107; have p108 : 0 ≤ (1 : Int) := (by omega); have q108 : 1 < (t101.length : Int) := of_decide_eq_true (by first | (with_reducible assumption) | assumption); obtain ⟨ad108, e108, hx108_0, hx108_1⟩ := at_T34 (Kd.R_reads' HO105.out).2.2 1 p108 q108; obtain rfl : ad106 = ad108 := (by injection e108); (try simp only [show (1 : Int).toNat = 1 from rfl, Nat.reduceMul, Nat.reduceEqDiff, Go.Addr.add, ↓reduceIte] at hx108_0); (try simp only [show (1 : Int).toNat = 1 from rfl, Nat.reduceMul, Nat.reduceEqDiff, Go.Addr.add, ↓reduceIte] at hx108_1); have qi108 : (1 < t101.length) = True := eq_true (by omega); (try rw [show ((1 : Int)).toNat = 1 from rfl] at hx108_0); (try rw [show 1 * 2 = 2 from rfl] at hx108_0); (try rw [show ((1 : Int)).toNat = 1 from rfl] at hx108_1); (try rw [show 1 * 2 = 2 from rfl] at hx108_1); replace p108 := eq_true p108; replace q108 := eq_true q108))
              go_ret
              exact ⟨by first | rfl | (simp [errW_none, errW_some] <;> rfl) | (simp [*, errW_none, errW_some] <;> rfl), by repeat (first | (with_reducible first | exact HB.out | apply below_alloc | apply pw_below_drewN | apply below_drew1) | exact HB.out)⟩
            · rw [if_neg c7] at H
              have c7b0 : (((rd_T34 t101 1).f0).toList == ([98, 32, 99, 100] : List UInt8)) = false := beq_eq_false_iff_ne.mpr c7
              have c7b1 : (((rd_T34 t101 1).f0).toList != ([98, 32, 99, 100] : List UInt8)) = true := bne_iff_ne.mpr c7
              obtain rfl := Option.some.inj H
              go_enter Try.func9, Try.ntmps9
              go_wp2_with (first | ((with_reducible refine gate_callee (f := 10) rfl ?_); refine goesL_ (some 5) rfl rfl Try.func10 (by kernel_rfl) rfl #[.string (⟨#[97, 32, 34, 98, 32, 99, 34, 100, 32, 35, 32, 101]⟩ : ByteArray)] rfl (by (try simp only [List.map_toArray, List.map_cons, List.map_nil]); first | done | rfl | (simp only [List.length_drop, List.length_take]; rfl)) ?_; (with_reducible refine (lexer_Fields.calls (⟨#[97, 32, 34, 98, 32, 99, 34, 100, 32, 35, 32, 101]⟩ : ByteArray) t101 t102 t103 _ A1.out).mono ?_); rintro e w10 ⟨v104, rfl, ho0, hb⟩; refine ⟨_, rfl, ?_⟩; have n0_ := Aside0.mk (Kd.R_lower ho0 (below_size (by repeat (first | (with_reducible first | exact HB.out | apply below_alloc | apply pw_below_drewN | apply below_drew1) | exact HB.out)))); have n1_ := Aside0.mk (below_step (by repeat (first | (with_reducible first | exact HB.out | apply below_alloc | apply pw_below_drewN | apply below_drew1) | exact HB.out)) hb); clear HB; have HO105 := n0_; have HB := n1_; clear n0_ n1_; (try clear hb); (try clear hb2); (try clear hk); (try clear hi); (try clear ho0); obtain ⟨Ao11, co11, eo11⟩ := Kd.R_slice HO105.out; subst eo11; have p106 : 0 ≤ (0 : Int) := (by omega); have q106 : 0 < (t101.length : Int) := of_decide_eq_true (by first | (with_reducible assumption) | assumption); obtain ⟨ad106, e106, hx106_0, hx106_1⟩ := at_T34 (Kd.R_reads' HO105.out).2.2 0 p106 q106; cases e106; have qi106 : (0 < t101.length) = True := eq_true (by omega); (try rw [show ((0 : Int)).toNat = 0 from rfl] at hx106_0); (try rw [show 0 * 2 = 0 from rfl] at hx106_0); (try rw [Addr.add_zero'] at hx106_0); (try rw [show ((0 : Int)).toNat = 0 from rfl] at hx106_1); (try rw [show 0 * 2 = 0 from rfl] at hx106_1); (try rw [Addr.add_zero'] at hx106_1); replace p106 := eq_true p106; replace q106 := eq_true q106; have p107 : 0 ≤ (1 : Int) := (by omega); have q107 : 1 < (t101.length : Int) := of_decide_eq_true (by first | (with_reducible assumption) | assumption); obtain ⟨ad107, e107, hx107_0, hx107_1⟩ := at_T34 (Kd.R_reads' HO105.out).2.2 1 p107 q107; obtain rfl : ad106 = ad107 := (by injection e107); (try simp only [show (1 : Int).toNat = 1 from rfl, Nat.reduceMul, Nat.reduceEqDiff, Go.Addr.add, ↓reduceIte] at hx107_0); (try simp only [show (1 : Int).toNat = 1 from rfl, Nat.reduceMul, Nat.reduceEqDiff, Go.Addr.add, ↓reduceIte] at hx107_1); have qi107 : (1 < t101.length) = True := eq_true (by omega); (try rw [show ((1 : Int)).toNat = 1 from rfl] at hx107_0); (try rw [show 1 * 2 = 2 from rfl] at hx107_0); (try rw [show ((1 : Int)).toNat = 1 from rfl] at hx107_1); (try rw [show 1 * 2 = 2 from rfl] at hx107_1); replace p107 := eq_true p107; replace q107 := eq_true q107))
              go_ret
              exact ⟨by first | rfl | (simp [errW_none, errW_some] <;> rfl) | (simp [*, errW_none, errW_some] <;> rfl), by repeat (first | (with_reducible first | exact HB.out | apply below_alloc | apply pw_below_drewN | apply below_drew1) | exact HB.out)⟩
          · rw [if_neg c6] at H
            exact absurd H (by simp)
        · rw [if_neg c5] at H
          have c5b0 : (((rd_T34 t101 0).f0).toList == ([97] : List UInt8)) = false := beq_eq_false_iff_ne.mpr c5
          have c5b1 : (((rd_T34 t101 0).f0).toList != ([97] : List UInt8)) = true := bne_iff_ne.mpr c5
          obtain rfl := Option.some.inj H
          go_enter Try.func9, Try.ntmps9
          go_wp2_with (first | ((with_reducible refine gate_callee (f := 10) rfl ?_); refine goesL_ (some 5) rfl rfl Try.func10 (by kernel_rfl) rfl #[.string (⟨#[97, 32, 34, 98, 32, 99, 34, 100, 32, 35, 32, 101]⟩ : ByteArray)] rfl (by (try simp only [List.map_toArray, List.map_cons, List.map_nil]); first | done | rfl | (simp only [List.length_drop, List.length_take]; rfl)) ?_; (with_reducible refine (lexer_Fields.calls (⟨#[97, 32, 34, 98, 32, 99, 34, 100, 32, 35, 32, 101]⟩ : ByteArray) t101 t102 t103 _ A1.out).mono ?_); rintro e w12 ⟨v104, rfl, ho0, hb⟩; refine ⟨_, rfl, ?_⟩; have n0_ := Aside0.mk (Kd.R_lower ho0 (below_size (by repeat (first | (with_reducible first | exact HB.out | apply below_alloc | apply pw_below_drewN | apply below_drew1) | exact HB.out)))); have n1_ := Aside0.mk (below_step (by repeat (first | (with_reducible first | exact HB.out | apply below_alloc | apply pw_below_drewN | apply below_drew1) | exact HB.out)) hb); clear HB; have HO105 := n0_; have HB := n1_; clear n0_ n1_; (try clear hb); (try clear hb2); (try clear hk); (try clear hi); (try clear ho0); obtain ⟨Ao13, co13, eo13⟩ := Kd.R_slice HO105.out; subst eo13; have p106 : 0 ≤ (0 : Int) := (by omega); have q106 : 0 < (t101.length : Int) := of_decide_eq_true (by first | (with_reducible assumption) | assumption); obtain ⟨ad106, e106, hx106_0, hx106_1⟩ := at_T34 (Kd.R_reads' HO105.out).2.2 0 p106 q106; cases e106; have qi106 : (0 < t101.length) = True := eq_true (by omega); (try rw [show ((0 : Int)).toNat = 0 from rfl] at hx106_0); (try rw [show 0 * 2 = 0 from rfl] at hx106_0); (try rw [Addr.add_zero'] at hx106_0); (try rw [show ((0 : Int)).toNat = 0 from rfl] at hx106_1); (try rw [show 0 * 2 = 0 from rfl] at hx106_1); (try rw [Addr.add_zero'] at hx106_1); replace p106 := eq_true p106; replace q106 := eq_true q106))
          go_ret
          exact ⟨by first | rfl | (simp [errW_none, errW_some] <;> rfl) | (simp [*, errW_none, errW_some] <;> rfl), by repeat (first | (with_reducible first | exact HB.out | apply below_alloc | apply pw_below_drewN | apply below_drew1) | exact HB.out)⟩
      · rw [if_neg c4] at H
        exact absurd H (by simp)
    · rw [if_neg c3] at H
      have c3b0 : ((t101.length : Int) == 2) = false := beq_eq_false_iff_ne.mpr c3
      have c3b1 : ((t101.length : Int) != 2) = true := bne_iff_ne.mpr c3
      obtain rfl := Option.some.inj H
      go_enter Try.func9, Try.ntmps9
      go_wp2_with (first | ((with_reducible refine gate_callee (f := 10) rfl ?_); refine goesL_ (some 5) rfl rfl Try.func10 (by kernel_rfl) rfl #[.string (⟨#[97, 32, 34, 98, 32, 99, 34, 100, 32, 35, 32, 101]⟩ : ByteArray)] rfl (by (try simp only [List.map_toArray, List.map_cons, List.map_nil]); first | done | rfl | (simp only [List.length_drop, List.length_take]; rfl)) ?_; (with_reducible refine (lexer_Fields.calls (⟨#[97, 32, 34, 98, 32, 99, 34, 100, 32, 35, 32, 101]⟩ : ByteArray) t101 t102 t103 _ A1.out).mono ?_); rintro e w14 ⟨v104, rfl, ho0, hb⟩; refine ⟨_, rfl, ?_⟩; have n0_ := Aside0.mk (Kd.R_lower ho0 (below_size (by repeat (first | (with_reducible first | exact HB.out | apply below_alloc | apply pw_below_drewN | apply below_drew1) | exact HB.out)))); have n1_ := Aside0.mk (below_step (by repeat (first | (with_reducible first | exact HB.out | apply below_alloc | apply pw_below_drewN | apply below_drew1) | exact HB.out)) hb); clear HB; have HO105 := n0_; have HB := n1_; clear n0_ n1_; (try clear hb); (try clear hb2); (try clear hk); (try clear hi); (try clear ho0); obtain ⟨Ao15, co15, eo15⟩ := Kd.R_slice HO105.out; subst eo15))
      go_ret
      exact ⟨by first | rfl | (simp [errW_none, errW_some] <;> rfl) | (simp [*, errW_none, errW_some] <;> rfl), by repeat (first | (with_reducible first | exact HB.out | apply below_alloc | apply pw_below_drewN | apply below_drew1) | exact HB.out)⟩
  · rw [if_neg c2] at H
    have c2b0 : (t103 == 0) = false := beq_eq_false_iff_ne.mpr c2
    have c2b1 : (t103 != 0) = true := bne_iff_ne.mpr c2
    obtain rfl := Option.some.inj H
    go_enter Try.func9, Try.ntmps9
    go_wp2_with (first | ((with_reducible refine gate_callee (f := 10) rfl ?_); refine goesL_ (some 5) rfl rfl Try.func10 (by kernel_rfl) rfl #[.string (⟨#[97, 32, 34, 98, 32, 99, 34, 100, 32, 35, 32, 101]⟩ : ByteArray)] rfl (by (try simp only [List.map_toArray, List.map_cons, List.map_nil]); first | done | rfl | (simp only [List.length_drop, List.length_take]; rfl)) ?_; (with_reducible refine (lexer_Fields.calls (⟨#[97, 32, 34, 98, 32, 99, 34, 100, 32, 35, 32, 101]⟩ : ByteArray) t101 t102 t103 _ A1.out).mono ?_); rintro e w16 ⟨v104, rfl, ho0, hb⟩; refine ⟨_, rfl, ?_⟩; have n0_ := Aside0.mk (Kd.R_lower ho0 (below_size (by repeat (first | (with_reducible first | exact HB.out | apply below_alloc | apply pw_below_drewN | apply below_drew1) | exact HB.out)))); have n1_ := Aside0.mk (below_step (by repeat (first | (with_reducible first | exact HB.out | apply below_alloc | apply pw_below_drewN | apply below_drew1) | exact HB.out)) hb); clear HB; have HO105 := n0_; have HB := n1_; clear n0_ n1_; (try clear hb); (try clear hb2); (try clear hk); (try clear hi); (try clear ho0)))
    go_ret
    exact ⟨by first | rfl | (simp [errW_none, errW_some] <;> rfl) | (simp [*, errW_none, errW_some] <;> rfl), by repeat (first | (with_reducible first | exact HB.out | apply below_alloc | apply pw_below_drewN | apply below_drew1) | exact HB.out)⟩

/-! ### noonmarkref07_white: function 20 -/
def noonmarkref07_white.f (a0 : Int) : Option (Bool) := if a0 = 32 then (some true) else (if a0 ≥ 9 then (some (decide (a0 ≤ 13))) else (some false))
set_option maxHeartbeats 8000000 in
set_option maxRecDepth 100000 in
theorem noonmarkref07_white.calls (a0 : Int) (r : Bool) (w : World) (h : noonmarkref07_white.f a0 = some r) :
    Calls Try.prog 20 #[.int .u8 a0] w fun e w' => e = .returned (.bool r) ∧ Drawn0 w w' := by
  have H : (if a0 = 32 then (some true) else (if a0 ≥ 9 then (some (decide (a0 ≤ 13))) else (some false))) = some r := h
  clear h
  by_cases c2 : a0 = 32
  · rw [if_pos c2] at H
    have c2b0 : (a0 == 32) = true := beq_iff_eq.mpr c2
    have c2b1 : (a0 != 32) = false := bne_eq_false_iff_eq.mpr c2
    clear c2
    obtain rfl := Option.some.inj H
    go_enter Try.func20, Try.ntmps20
    go_wp2
    go_ret
    exact ⟨by first | rfl | (simp; done) | (simp [*]; done), by repeat (first | exact Drawn0.refl _ | apply Drawn0.step)⟩
  · rw [if_neg c2] at H
    have c2b0 : (a0 == 32) = false := beq_eq_false_iff_ne.mpr c2
    have c2b1 : (a0 != 32) = true := bne_iff_ne.mpr c2
    by_cases c3 : a0 ≥ 9
    · rw [if_pos c3] at H
      have c3b0 : decide (9 ≤ a0) = true := decide_eq_true c3
      clear c3
      obtain rfl := Option.some.inj H
      go_enter Try.func20, Try.ntmps20
      go_wp2
      go_ret
      exact ⟨by first | rfl | (simp; done) | (simp [*]; done), by repeat (first | exact Drawn0.refl _ | apply Drawn0.step)⟩
    · rw [if_neg c3] at H
      have c3b0 : decide (9 ≤ a0) = false := decide_eq_false c3
      clear c3
      obtain rfl := Option.some.inj H
      go_enter Try.func20, Try.ntmps20
      go_wp2
      go_ret
      exact ⟨by first | rfl | (simp; done) | (simp [*]; done), by repeat (first | exact Drawn0.refl _ | apply Drawn0.step)⟩

end Go.Proofs.Ytbhbjlohmalicaa.S
