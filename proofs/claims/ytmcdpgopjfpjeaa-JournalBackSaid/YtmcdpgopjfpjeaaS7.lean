-- Written by a program of this session for this claim (it follows the print's forms). Not trusted: Lean checks it.
import Derived.Test.YtmcdpgopjfpjeaaS0
import Derived.Test.YtmcdpgopjfpjeaaS2
import Derived.Test.YtmcdpgopjfpjeaaS3
import Derived.Test.YtmcdpgopjfpjeaaS6
namespace Go.Proofs.Ytmcdpgopjfpjeaa.S
open Go.RowKit Go.Proofs.YtmcdpgopjfpjeaaW.PrintWords Go.Proofs.YtmcdpgopjfpjeaaW.PrintLast Go.Proofs.YtmcdpgopjfpjeaaW.PrintMore
attribute [local go_sem] max2_int min2_int max_two min_two max_three min_three max_four min_four   -- for this text's walks alone
set_option linter.unusedVariables false
set_option linter.unusedSimpArgs false

/-! ### journal_Compact: function 21 -/
section
attribute [local go_sem] Oper.semAt_some
/-- what has come when k rounds are over: f 0, .., f (k - 1) -/
def uptoC {α : Type} (f : Nat → α) (k : Nat) : List α := (List.range k).map f
theorem uptoC_succ {α : Type} (f : Nat → α) (k : Nat) : uptoC f (k + 1) = uptoC f k ++ [f k] := by simp [uptoC, List.range_succ]
theorem uptoC_length {α : Type} (f : Nat → α) (k : Nat) : (uptoC f k).length = k := by simp [uptoC]
/-- the records of a slice that came in, each at its two cells -/
def RecsAt (n₀ : Nat) (W : World) (ad : Addr) (l : List S29) (Af : Nat → Option Addr) (Cf : Nat → Nat) : Prop :=
  ad.block < n₀ ∧ ∀ i, i < l.length → W.cell? (ad.add (i * 2)) = some (.int .i64 (rd_T29 l (i : Int)).f0) ∧ W.cell? ⟨(ad.add (i * 2)).block, (ad.add (i * 2)).off + 1, none⟩ = some (.slice (Af i) (rd_T29 l (i : Int)).f1.length (Cf i))
theorem add_blockC (ad : Addr) (j : Nat) : (ad.add j).block = ad.block := by unfold Addr.add; split <;> simp_all
theorem RecsAt.below {n₀ : Nat} {A B : World} {ad : Addr} {l : List S29} {Af : Nat → Option Addr} {Cf : Nat → Nat} (h : RecsAt n₀ A ad l Af Cf) (hb : Below n₀ A B) : RecsAt n₀ B ad l Af Cf :=
  ⟨h.1, fun i hi => ⟨(hb.cell (p := ad.add (i * 2)) (by rw [add_blockC]; exact h.1)).trans (h.2 i hi).1, (hb.cell (p := ⟨(ad.add (i * 2)).block, (ad.add (i * 2)).off + 1, none⟩) (by show (ad.add (i * 2)).block < n₀; rw [add_blockC]; exact h.1)).trans (h.2 i hi).2⟩⟩
/-- the i-th of what the iterator hands over: from the last on -/
def eltC (l : List S29) (Af : Nat → Option Addr) (Cf : Nat → Nat) (j : Nat) : Nat × Option Addr × Nat := (l.length - 1 - j, Af (l.length - 1 - j), Cf (l.length - 1 - j))
/-- its index: of what the iterator hands over it is the number itself -/
def ixC (l : List S29) (x : Nat × Option Addr × Nat) : Nat := min x.1 (l.length - 1)
theorem ixC_lt {l : List S29} (h : 0 < l.length) (x : Nat × Option Addr × Nat) : ixC l x < l.length := by unfold ixC; omega
theorem ixC_elt (l : List S29) (Af : Nat → Option Addr) (Cf : Nat → Nat) (j : Nat) : ixC l (eltC l Af Cf j) = l.length - 1 - j := by unfold ixC eltC; omega
theorem ixC_at {l : List S29} {m : Nat} (h : m < l.length) (a : Option Addr) (c : Nat) : ixC l (m, a, c) = m := by unfold ixC; simp only; omega
def encC (l : List S29) (x : Nat × Option Addr × Nat) : Array Value := #[.int .i64 (ixC l x : Int), .agg #[.int .i64 (rd_T29 l (ixC l x : Int)).f0, .slice x.2.1 (rd_T29 l (ixC l x : Int)).f1.length x.2.2]]
/-- what a round keeps: what lay below n₀, and the iterator's own box -/
def KpC (n₀ Bs : Nat) (W W' : World) : Prop := Below n₀ W W' ∧ W'.heap[Bs]? = W.heap[Bs]?
theorem kpC_t {n₀ Bs : Nat} {A B C : World} (h : KpC n₀ Bs A B) (k : KpC n₀ Bs B C) : KpC n₀ Bs A C := ⟨h.1.trans k.1, k.2.trans h.2⟩

set_option maxRecDepth 100000 in
set_option maxHeartbeats 2000000 in
theorem back1_in (F : Fence) (n : Nat) (h40 : F.fn 40) (hro : F.round = none) (hn : 1 ≤ n) (li Bs n₀ cap : Nat) (ad : Addr) (l : List S29) (Af : Nat → Option Addr) (Cf : Nat → Nat) (hlen : l.length ≤ 4398046511104) (J Jx : List (Nat × Option Addr × Nat) → World → Prop)
    (hY : ∀ pre x W, J pre W → pre.length < l.length → YieldAt F (n - 1) Try.prog li (encC l x) W fun e W' =>
      (e = .returned (.bool true) ∧ J (pre ++ [x]) W' ∧ KpC n₀ Bs W W') ∨ (e = .returned (.bool false) ∧ Jx (pre ++ [x]) W'))
    (W : World) (hBs : W.heap[Bs]? = some (.cells #[.slice (some ad) l.length cap] 32 (0, 0))) (hR : RecsAt n₀ W ad l Af Cf) (h0 : J [] W) :
    CallsIn F n Try.prog 40 #[.func (.yield li) #[] #[], .pointer (some ⟨Bs, 0, none⟩)] W fun e W' => (∃ v, e = .returned v) ∧
      ((∃ ys, ys = uptoC (eltC l Af Cf) l.length ∧ J ys W') ∨ (∃ pre, (∃ k, k ≤ l.length ∧ pre = uptoC (eltC l Af Cf) k) ∧ Jx pre W')) := by
  have cB : W.cell? ⟨Bs, 0, none⟩ = some (.slice (some ad) l.length cap) := (blk_cell hBs 0).trans rfl
  refine callsIn_of_wp Try.func40 rfl h40 ?_ hro
  simp only [Try.ntmps40, List.size_toArray, List.length_cons, List.length_nil, Nat.reduceAdd, Nat.reduceSub, Array.replicate_succ, Array.replicate_zero, List.push_toArray, List.append_toArray, List.nil_append, List.cons_append]
  gi_wp2
  gi_loopw [3] (fun i wr => ∃ d : Nat, d ≤ l.length ∧ J (uptoC (eltC l Af Cf) d) wr ∧ KpC n₀ Bs W wr ∧ ((d = l.length ∧ i = .int .i64 (-1)) ∨ (∃ m : Nat, m + 1 + d = l.length ∧ i = .int .i64 (m : Int))))
    (fun i _ => (intOf i + 1).toNat)
  case atStart =>
    refine ⟨0, Nat.zero_le _, h0, ⟨Below.refl _ _, rfl⟩, ?_⟩
    rcases Nat.eq_zero_or_pos l.length with e | e
    · exact .inl ⟨e.symm, by rw [e]; rfl⟩
    · exact .inr ⟨l.length - 1, by omega, by go_num⟩
  case round =>
    obtain ⟨d, hd, hJs, hK, (⟨hdl, rfl⟩ | ⟨m, hm, rfl⟩)⟩ := hrel
    · have HJ := Aside0.mk hJs
      clear hJs
      have HD := Aside0.mk hdl
      clear hdl
      gi_wp2
      go_end0
      exact ⟨⟨_, rfl⟩, .inl ⟨_, by rw [HD.out], HJ.out⟩⟩
    · have hRm := (hR.below hK.1).2 m (by omega)
      obtain ⟨hx0, hx1⟩ := hRm
      have kB : wr.cell? ⟨Bs, 0, none⟩ = some (.slice (some ad) l.length cap) := (blk_cell (hK.2.trans hBs) 0).trans rfl
      have he : eltC l Af Cf d = (m, Af m, Cf m) := by unfold eltC; rw [show l.length - 1 - d = m by omega]
      obtain ⟨fn, tmps, assign, body, hy, hRd⟩ := hY _ (m, Af m, Cf m) wr hJs (by rw [uptoC_length]; omega)
      dsimp only [encC] at hy
      rw [ixC_at (show m < l.length by omega)] at hy
      have hlt : m < l.length := by omega
      have hltz : (m : Int) < (l.length : Int) := by omega
      have HK := Aside0.mk hK
      have HE := Aside0.mk he
      have HM := Aside0.mk hm
      clear hK he hm hJs
      gi_wp2
      refine hRd.mono ?_
      rintro e W3 (⟨rfl, hJ3, hk3⟩ | ⟨rfl, hJx3⟩)
      · have HJ3 := Aside0.mk hJ3
        have HK3 := Aside0.mk hk3
        clear hJ3 hk3
        gi_wp2
        go_roundw
        case rel =>
          refine ⟨d + 1, by have := HM.out; omega, by rw [uptoC_succ, HE.out]; exact HJ3.out, kpC_t HK.out HK3.out, ?_⟩
          rcases Nat.eq_zero_or_pos m with e0 | e0
          · exact .inl ⟨by have := HM.out; omega, by subst e0; rfl⟩
          · exact .inr ⟨m - 1, by have := HM.out; omega, by go_num⟩
        case measure => simp [intOf]
      · have HJx := Aside0.mk hJx3
        clear hJx3
        gi_wp2
        refine bodyPost_ret (results_none rfl _ _ _) rfl ?_
        exact ⟨⟨_, rfl⟩, .inr ⟨_, ⟨d + 1, by have := HM.out; omega, by rw [uptoC_succ, HE.out]⟩, HJx.out⟩⟩
set_option maxRecDepth 100000 in
set_option maxHeartbeats 1000000 in
/-- .. at the nil slice: no round -/
theorem back1_nil_in (F : Fence) (n : Nat) (h40 : F.fn 40) (hro : F.round = none) (li Bs cap : Nat) (A : Option Addr) (J : List (Nat × Option Addr × Nat) → World → Prop) (W : World) (hBs : W.heap[Bs]? = some (.cells #[.slice A 0 cap] 32 (0, 0))) (h0 : J [] W) :
    CallsIn F n Try.prog 40 #[.func (.yield li) #[] #[], .pointer (some ⟨Bs, 0, none⟩)] W fun e W' => (∃ v, e = .returned v) ∧ J [] W' := by
  have cB : W.cell? ⟨Bs, 0, none⟩ = some (.slice A 0 cap) := (blk_cell hBs 0).trans rfl
  refine callsIn_of_wp Try.func40 rfl h40 ?_ hro
  simp only [Try.ntmps40, List.size_toArray, List.length_cons, List.length_nil, Nat.reduceAdd, Nat.reduceSub, Array.replicate_succ, Array.replicate_zero, List.push_toArray, List.append_toArray, List.nil_append, List.cons_append]
  gi_wp2
  gi_loopw [3] (fun i wr => i = .int .i64 (-1) ∧ J [] wr) (fun _ _ => 0)
  case atStart => exact ⟨rfl, h0⟩
  case round =>
    obtain ⟨rfl, hJs⟩ := hrel
    gi_wp2
    go_end0
    exact ⟨⟨_, rfl⟩, hJs⟩
set_option maxHeartbeats 1000000 in
/-- slices.Backward(s): the slice value is boxed; the function value captures the box -/
theorem backward_in (F : Fence) (n : Nat) (h35 : F.fn 35) (hro : F.round = none) (a : Option Addr) (len cap : Nat) (w : World) :
    CallsIn F n Try.prog 35 #[.slice a len cap] w fun e w' => e = .returned (.func (.func 40) #[] #[.pointer (some ⟨w.heap.size, 0, none⟩)]) ∧ w' = w.alloc (.cells #[.slice a len cap] 32) := by
  refine callsIn_of_wp Try.func35 rfl h35 ?_ hro
  simp only [Try.ntmps35, List.size_toArray, List.length_cons, List.length_nil, Nat.reduceAdd, Nat.reduceSub, Array.replicate_succ, Array.replicate_zero, List.push_toArray, List.append_toArray, List.nil_append, List.cons_append]
  gi_wp2
  go_ret
  exact ⟨rfl, rfl⟩
/-- a slice of records that came in: nil, or each of its records at its cells -/
def RecsIn (n₀ : Nat) (W : World) (A : Option Addr) (l : List S29) (Af : Nat → Option Addr) (Cf : Nat → Nat) : Prop := l = [] ∨ ∃ ad, A = some ad ∧ RecsAt n₀ W ad l Af Cf
theorem RecsIn.below {n₀ : Nat} {A B : World} {a : Option Addr} {l : List S29} {Af : Nat → Option Addr} {Cf : Nat → Nat} (h : RecsIn n₀ A a l Af Cf) (hb : Below n₀ A B) : RecsIn n₀ B a l Af Cf :=
  h.imp id (fun ⟨ad, e, hr⟩ => ⟨ad, e, hr.below hb⟩)
theorem back_stops (F : Fence) (n : Nat) (h40 : F.fn 40) (hro : F.round = none) (hn : 1 ≤ n) (Bs n₀ cap : Nat) (A : Option Addr) (l : List S29) (Af : Nat → Option Addr) (Cf : Nat → Nat) (hlen : l.length ≤ 4398046511104) (w : World) (hBs : Bs < w.heap.size) (hn₀ : n₀ ≤ w.heap.size)
    (hc : w.heap[Bs]? = some (.cells #[.slice A l.length cap] 32 (0, 0))) (hI : RecsIn n₀ w A l Af Cf) :
    SeqStopsK F n Try.prog 40 #[.pointer (some ⟨Bs, 0, none⟩)] (encC l) (KpC n₀ Bs) (fun ys => ys = uptoC (eltC l Af Cf) l.length) (fun pre => ∃ k, k ≤ l.length ∧ pre = uptoC (eltC l Af Cf) k) l.length w := fun li J Jx W hW _ _ hY h0 => by
  have hc' := (hW.block Bs hBs).trans hc
  rcases hI.below (hW.mono hn₀) with rfl | ⟨ad, rfl, hr⟩
  · exact (back1_nil_in F n h40 hro li Bs cap A J W hc' h0).mono fun e W' ⟨he, hj⟩ => ⟨he, .inl ⟨_, rfl, hj⟩⟩
  · exact back1_in F n h40 hro hn li Bs n₀ cap ad l Af Cf hlen J Jx hY W hc' hr h0
end
def lastZ (l : List S29) : Nat → Option Nat
  | 0 => none
  | k + 1 => if (rd_T29 l (k : Int)).f0 = 0 then some k else lastZ l k
def journal_Compact.f (l0 : List (S29)) : Option ((List (S29))) := if l0.length ≤ 4398046511104 then (match lastZ l0 l0.length with | none => some l0 | some k => some (l0.drop k)) else none
theorem lastZ_none {l : List S29} : ∀ k : Nat, (∀ i : Nat, i < k → (rd_T29 l (i : Int)).f0 ≠ 0) → lastZ l k = none
  | 0, _ => rfl
  | k + 1, h => by unfold lastZ; rw [if_neg (h k (by omega))]; exact lastZ_none k (fun i hi => h i (by omega))
theorem lastZ_some {l : List S29} : ∀ k i : Nat, i < k → (rd_T29 l (i : Int)).f0 = 0 → (∀ j : Nat, i < j → j < k → (rd_T29 l (j : Int)).f0 ≠ 0) → lastZ l k = some i
  | 0, i, h, _, _ => absurd h (Nat.not_lt_zero _)
  | k + 1, i, hi, h0, hj => by
    unfold lastZ
    by_cases e : i = k
    · subst e; rw [if_pos h0]
    · rw [if_neg (hj k (by omega) (by omega))]
      exact lastZ_some k i (by omega) h0 (fun j h1 h2 => hj j h1 (by omega))
section
attribute [local go_sem] Oper.semAt_some
/-- the slice from the k-th record on -/
def fromC (A : Option Addr) (cap : Nat) (l : List S29) (k : Nat) : Value := .slice (A.map (·.add (k * 2))) (l.length - k) (cap - k)
def InvC (w : World) (A : Option Addr) (cap : Nat) (l : List S29) (pre : List (Nat × Option Addr × Nat)) (W : World) : Prop :=
  ((Boxed W w.heap.size 32 (.slice A l.length cap) ∧ Boxed W (w.heap.size + 1) 32 (.slice none 0 0) ∧ Boxed W (w.heap.size + 1 + 1) 32 (.slice A l.length cap)) ∧ (∀ p ∈ pre, (rd_T29 l (ixC l p : Int)).f0 ≠ 0)) ∧ Below w.heap.size w W
def OutC (w : World) (A : Option Addr) (cap : Nat) (l : List S29) (c : Code) (pre : List (Nat × Option Addr × Nat)) (W : World) : Prop :=
  (c = .ret ∧ ∃ ini last, pre = ini ++ [last] ∧ (∀ p ∈ ini, (rd_T29 l (ixC l p : Int)).f0 ≠ 0) ∧ (rd_T29 l (ixC l last : Int)).f0 = 0 ∧ ixC l last < l.length ∧ Boxed W (w.heap.size + 1) 32 (fromC A cap l (ixC l last))) ∧ Below w.heap.size w W
def AxC (w : World) (A : Option Addr) (cap : Nat) (l : List S29) (x : Nat × Option Addr × Nat) (a' : Act) (W : World) : Prop :=
  ∃ Bx, w.heap.size + 1 + 1 < Bx ∧ W.heap[Bx]? = some (.cells #[.int .i64 (rd_T29 l (ixC l x : Int)).f0, .slice x.2.1 (rd_T29 l (ixC l x : Int)).f1.length x.2.2] 29 (0, 0)) ∧ a' = { tmps := #[.slice A l.length cap, .pointer (some ⟨w.heap.size, 0, none⟩), .pointer (some ⟨w.heap.size + 1, 0, none⟩), .int .i64 (ixC l x : Int), .pointer (some ⟨Bx, 0, none⟩), .slice A l.length cap, .func (.func 40) #[] #[.pointer (some ⟨w.heap.size + 1 + 1, 0, none⟩)], .int .i64 (ixC l x : Int), .agg #[.int .i64 (rd_T29 l (ixC l x : Int)).f0, .slice x.2.1 (rd_T29 l (ixC l x : Int)).f1.length x.2.2], undef, undef, undef, undef, undef, undef, undef], defers := [] }
theorem invC_own (B : Nat) (w : World) (A : Option Addr) (cap : Nat) (l : List S29) (hB : w.heap.size ≤ B) : OwnFrom B (InvC w A cap l) :=
  OwnFrom.and (OwnFrom.and (OwnFrom.and (Own.from (boxed_own _ _ _) _) (OwnFrom.and (Own.from (boxed_own _ _ _) _) (Own.from (boxed_own _ _ _) _))) (ownFrom_pure _ _)) (ownFrom_below (Nat.le_refl _) hB)
theorem outC_own (B : Nat) (w : World) (A : Option Addr) (cap : Nat) (l : List S29) (hB : w.heap.size ≤ B) (c : Code) : OwnFrom B (OutC w A cap l c) :=
  OwnFrom.and (Own.from (fun s X Y row hs hg hr => by obtain ⟨hc, ini, last, e1, e2, e3, e4, e5⟩ := hs; exact ⟨hc, ini, last, e1, e2, e3, e4, e5.kept hg (fun e => by obtain ⟨o, ho, hoc⟩ := hr _ e.symm; have h5 : X.heap[w.heap.size + 1]? = some (.cells _ 32 (0, 0)) := e5; rw [h5] at ho; cases ho; simp [Obj.isCells] at hoc)⟩) _) (ownFrom_below (Nat.le_refl _) hB)
theorem axC_own (B : Nat) (w : World) (A : Option Addr) (cap : Nat) (l : List S29) (x : Nat × Option Addr × Nat) (a' : Act) : OwnFrom B (fun (_ : Unit) W => AxC w A cap l x a' W) :=
  fun _ X Y row hs hg hr => by obtain ⟨Bx, h1, h2, h3⟩ := hs; exact ⟨Bx, h1, blk_grown h2 hg (fun e => by obtain ⟨_, o, ho, hoc⟩ := hr _ e.symm; rw [h2] at ho; cases ho; simp [Obj.isCells] at hoc), h3⟩
def CompQ (w : World) (A : Option Addr) (cap : Nat) (l : List S29) (e : Ending) (W' : World) : Prop :=
  ((e = .returned (.slice A l.length cap) ∧ lastZ l l.length = none) ∨ (∃ k : Nat, k < l.length ∧ lastZ l l.length = some k ∧ e = .returned (fromC A cap l k))) ∧ Below w.heap.size w W'
set_option maxRecDepth 100000 in
set_option maxHeartbeats 4000000 in
theorem compact_in (F : Fence) (n : Nat) (h21 : F.fn 21) (h35 : F.fn 35) (h40 : F.fn 40) (hro : F.round = none) (hn : 3 ≤ n) (A : Option Addr) (cap : Nat) (l : List S29) (Af : Nat → Option Addr) (Cf : Nat → Nat) (hlen : l.length ≤ 4398046511104) (hcap : l.length ≤ cap) (w : World) (hI : RecsIn w.heap.size w A l Af Cf) :
    CallsIn F n Try.prog 21 #[.slice A l.length cap] w (CompQ w A cap l) := by
  have h1 : 1 ≤ n := by omega
  obtain ⟨i0, hi0, _, hsz, _⟩ := info_parts info29J
  have hcut : ∀ (k : Nat), k < l.length → ∀ W : World, (Instr.slice 32 (.slice A l.length cap) (some (.int .i64 (k : Int))) none none).run Try.prog W = .ok (.slice (A.map (·.add (k * 2))) (l.length - k) (cap - k)) W := fun k hk => by
    have := cut_from (P := Try.prog) 32 29 .i64 Try.underlying32 hi0 2 hsz A l.length cap (k : Int) (by omega) (by omega)
    rw [Int.toNat_natCast, if_neg (by omega)] at this
    exact this
  have HCUT := Aside0.mk hcut
  clear hcut hi0 hsz
  refine callsIn_of_wp_marks Try.func21 rfl h21 ?_ hro
  simp only [Try.ntmps21, List.size_toArray, List.length_cons, List.length_nil, Nat.reduceAdd, Nat.reduceSub, Array.replicate_succ, Array.replicate_zero, List.push_toArray, List.append_toArray, List.nil_append, List.cons_append]
  gi_wp2_with (gi_at_call 35; refine (backward_in F (n - 1) h35 hro _ _ _ _).mono ?_; rintro e w' ⟨rfl, rfl⟩)
  have b1 := ((Boxed.new w 32 (.slice A l.length cap)).alloc (.cells #[.slice none 0 0] 32)).alloc (.cells #[.slice A l.length cap] 32)
  have b2 := (Boxed.new (w.alloc (.cells #[.slice A l.length cap] 32)) 32 (.slice none 0 0)).alloc (.cells #[.slice A l.length cap] 32)
  have b3 := Boxed.new ((w.alloc (.cells #[.slice A l.length cap] 32)).alloc (.cells #[.slice none 0 0] 32)) 32 (.slice A l.length cap)
  simp only [World.size_alloc] at b2 b3
  have hB0 : Below w.heap.size w (((w.alloc (.cells #[.slice A l.length cap] 32)).alloc (.cells #[.slice none 0 0] 32)).alloc (.cells #[.slice A l.length cap] 32)) := (((Below.refl _ w).alloc (Nat.le_refl _) _).alloc (by simp) _).alloc (by simp; omega) _
  have hsz : (((w.alloc (.cells #[.slice A l.length cap] 32)).alloc (.cells #[.slice none 0 0] 32)).alloc (.cells #[.slice A l.length cap] 32)).heap.size = w.heap.size + 3 := by simp
  obtain ⟨W0, hW0⟩ : ∃ W0, ((w.alloc (.cells #[.slice A l.length cap] 32)).alloc (.cells #[.slice none 0 0] 32)).alloc (.cells #[.slice A l.length cap] 32) = W0 := ⟨_, rfl⟩
  rw [hW0] at b1 b2 b3 hB0 hsz ⊢
  clear hW0
  refine wpIn_rangeFunc_ownH hro h1 (gf := 40) (lb := #[.pointer (some ⟨w.heap.size + 1 + 1, 0, none⟩)]) rfl h40 (enters_of Try.func40 (by kernel_rfl) rfl)
    (back_stops F (n - 1) h40 hro (by omega) (w.heap.size + 1 + 1) w.heap.size cap A l Af Cf hlen W0 (by omega) (by omega) b3 (hI.below hB0)) kpC_t
    (fun W li o o' hl ho h1 h2 => ⟨belowK_b (w := W0) (by omega) W li o o' hl ho h1 h2, (grownBy_putObj' W li o').block (w.heap.size + 1 + 1) (by have := (Array.getElem?_eq_some_iff.1 ho).1; omega) (by intro e; injection e with e; omega)⟩)
    (Below.refl _ _) (fun _ => rfl)
    (InvC w A cap l) (OutC w A cap l) (invC_own _ _ _ _ _ (by omega)) (outC_own _ _ _ _ _ (by omega))
    ⟨⟨⟨b1, b2, b3⟩, by simp⟩, hB0⟩
    (AxC w A cap l) (axC_own _ _ _ _ _)
    ?assign ?body ?done ?stop
  case assign =>
    rintro li pre x W K ⟨⟨⟨bW1, bW2, bW3⟩, hp⟩, hB1⟩ hK
    dsimp only [encC]
    gi_wp2
    exact hK _ _ ((KeepsOthers.alloc _ _).from _) ⟨(Below.refl _ W).alloc hB1.size _, Below.heap_alloc W _ _ bW3.lt⟩ ⟨⟨⟨bW1.alloc _, bW2.alloc _, bW3.alloc _⟩, hp⟩, hB1.alloc hB1.size _⟩ ⟨W.heap.size, bW3.lt, blk_new W _, rfl⟩
  case body =>
    rintro li pre x a' W hl ⟨r, hr⟩ ⟨⟨⟨bW1, bW2, bW3⟩, hp⟩, hB1⟩ ⟨Bx, hBx, bX, rfl⟩ hlt
    have cX : W.cell? ⟨Bx, 0, none⟩ = some (.int .i64 (rd_T29 l (ixC l x : Int)).f0) := (blk_cell bX 0).trans rfl
    have c1 := bW1.cell
    have c2 := bW2.cell
    have f2 := bW2.frozen
    have hix := ixC_lt (show 0 < l.length by omega) x
    have hcut := HCUT.out (ixC l x) hix
    have HP := Aside0.mk hp
    have HB := Aside0.mk hB1
    have HBX := Aside0.mk bX
    have HX := Aside0.mk hix
    have H1 := Aside0.mk bW1
    have H2 := Aside0.mk bW2
    have H3 := Aside0.mk bW3
    have hz0 : 0 ≤ (ixC l x : Int) := by omega
    have hz1 : (ixC l x : Int) ≤ (l.length : Int) := by omega
    clear hp hB1 bX hix bW1 bW2 bW3 hlt
    by_cases hk : (rd_T29 l (ixC l x : Int)).f0 = 0
    · have d0 : ((rd_T29 l (ixC l x : Int)).f0 == 0) = true := beq_iff_eq.mpr hk
      have HK := Aside0.mk hk
      clear hk
      gi_wp2
      exact ⟨(KeepsOthers.setCell _ _ _).from _, ⟨rfl, pre, x, rfl, HP.out, HK.out, HX.out, H2.out.set _⟩, HB.out.setCell (p := ⟨w.heap.size + 1, 0, none⟩) (by simp) _⟩
    · have d0 : ((rd_T29 l (ixC l x : Int)).f0 == 0) = false := beq_eq_false_iff_ne.mpr hk
      have HK := Aside0.mk hk
      clear hk
      gi_wp2
      exact ⟨KeepsFrom.refl _ _, ⟨Below.refl _ _, rfl⟩, ⟨⟨H1.out, H2.out, H3.out⟩, fun p hp' => (List.mem_append.1 hp').elim (HP.out p) (fun e => by simp at e; subst e; exact HK.out)⟩, HB.out⟩
  case done =>
    rintro D zs W hD rfl ⟨⟨⟨bW1, bW2, bW3⟩, hp⟩, hB1⟩ hK
    have c1 := bW1.cell
    have c2 := bW2.cell
    have f2 := bW2.frozen
    have HP := Aside0.mk hp
    have HK := Aside0.mk hK
    have HB := Aside0.mk hB1
    have H2 := Aside0.mk bW2
    clear hp hK hB1 bW1 bW2 bW3
    gi_wp2
    have hK' := (KeepsOthers.setCell W ⟨w.heap.size + 1, 0, none⟩ (.slice A l.length cap)).same D _ HK.out rfl
    refine ⟨by simp, .inl ⟨_, _, rfl, run_takeDeferred hK', ?_⟩⟩
    have hc5 := cell_kept (World.cell?_setCell_same' W ⟨w.heap.size + 1, 0, none⟩ (.slice A l.length cap) (by rw [c2]; rfl)) (grownBy_putObj' _ D (.deferred none)) (fun r e => by cases e; exact ⟨_, hK', rfl⟩)
    refine ⟨.slice A l.length cap, ?_, .inl ⟨rfl, lastZ_none _ (fun i hi => ?_)⟩, (HB.out.setCell (p := ⟨w.heap.size + 1, 0, none⟩) (by simp) _).trans (belowK_b (w := w) (Nat.le_refl _) _ D _ _ (by omega) hK' rfl rfl)⟩
    · simp [results, Try.f21, go_sem, hc5]
    · have := HP.out (eltC l Af Cf (l.length - 1 - i)) (by simp only [uptoC, List.mem_map, List.mem_range]; exact ⟨l.length - 1 - i, by omega, rfl⟩)
      rw [ixC_elt, show l.length - 1 - (l.length - 1 - i) = i by omega] at this
      exact this
  case stop =>
    rintro D c pre W hD ⟨k, hk, rfl⟩ ⟨⟨rfl, ini, last, e1, e2, e3, e4, bR⟩, hB⟩ hK
    have HK := Aside0.mk hK
    have HB := Aside0.mk hB
    have HE := Aside0.mk e1
    have HE2 := Aside0.mk e2
    have HE3 := Aside0.mk e3
    have HE4 := Aside0.mk e4
    have HR := Aside0.mk bR
    clear hK hB e1 e2 e3 e4 bR
    gi_wp2
    refine ⟨by simp, .inl ⟨_, _, rfl, run_takeDeferred HK.out, ?_⟩⟩
    have hc5 := cell_kept HR.out.cell (grownBy_putObj' _ D (.deferred none)) (fun r e => by cases e; exact ⟨_, HK.out, rfl⟩)
    obtain ⟨k', rfl⟩ : ∃ k', k = k' + 1 := by
      cases k with
      | zero => have := HE.out; simp [uptoC] at this
      | succ k' => exact ⟨k', rfl⟩
    have e1 := HE.out
    rw [uptoC_succ] at e1
    obtain ⟨rfl, e5⟩ := List.append_inj' e1 rfl
    obtain rfl : eltC l Af Cf k' = last := by simpa using e5
    rw [ixC_elt] at hc5
    have e3 := HE3.out
    rw [ixC_elt] at e3
    refine ⟨fromC A cap l (l.length - 1 - k'), ?_, .inr ⟨l.length - 1 - k', by omega, lastZ_some _ _ (by omega) e3 (fun j h1 h2 => ?_), rfl⟩, HB.out.trans (belowK_b (w := w) (Nat.le_refl _) W D _ _ (by omega) HK.out rfl rfl)⟩
    · simp [results, Try.f21, go_sem, hc5, fromC]
    · have := HE2.out (eltC l Af Cf (l.length - 1 - j)) (by simp only [uptoC, List.mem_map, List.mem_range]; exact ⟨l.length - 1 - j, by omega, rfl⟩)
      rw [ixC_elt, show l.length - 1 - (l.length - 1 - j) = j by omega] at this
      exact this
end
theorem recsIn_of {w : World} {A : Option Addr} {l : List S29} (h : Kd.C k29 w A l.length l) : ∃ Af Cf, RecsIn w.heap.size w A l Af Cf := by
  rcases Nat.eq_zero_or_pos l.length with h0 | h0
  · exact ⟨fun _ => none, fun _ => 0, .inl (List.eq_nil_of_length_eq_zero h0)⟩
  · obtain ⟨ad, _, _, rfl, hx, _⟩ := at_T29 h 0 (by omega) (by omega)
    have hlt := World.block_lt_of_cell? _ _ hx
    rw [add_blockC] at hlt
    have H : ∀ i : Nat, ∃ p : Option Addr × Nat, i < l.length → w.cell? (ad.add (i * 2)) = some (.int .i64 (rd_T29 l (i : Int)).f0) ∧ w.cell? ⟨(ad.add (i * 2)).block, (ad.add (i * 2)).off + 1, none⟩ = some (.slice p.1 (rd_T29 l (i : Int)).f1.length p.2) := fun i => by
      by_cases hi : i < l.length
      · obtain ⟨ad2, A1, c1, e, h1, h2, _⟩ := at_T29 h (i : Int) (by omega) (by omega)
        cases e
        rw [Int.toNat_natCast] at h1 h2
        exact ⟨(A1, c1), fun _ => ⟨h1, h2⟩⟩
      · exact ⟨(none, 0), fun h => absurd h hi⟩
    exact ⟨fun i => (Classical.choose (H i)).1, fun i => (Classical.choose (H i)).2, .inr ⟨ad, rfl, hlt, fun i hi => Classical.choose_spec (H i) hi⟩⟩
theorem journal_Compact.calls (P0_ : Nat → Prop) (A0 : Option Addr) (c0 : Nat) (l0 : List (S29)) (r : List (S29)) (w : World) (hs0 : Kd.V k29 29 w w.heap.size (fun k_ => P0_ k_) (.slice A0 l0.length c0) l0) (h : journal_Compact.f l0 = some r) :
    Calls Try.prog 21 #[.slice A0 l0.length c0] w fun e w' => ∃ v0_ : Value, e = .returned (v0_) ∧ Kd.V k29 29 w' w.heap.size (fun k_ => (P0_ k_ ∨ w.heap.size ≤ k_)) v0_ r ∧ Below w.heap.size w w' := by
  unfold journal_Compact.f at h
  by_cases hl : l0.length ≤ 4398046511104
  · rw [if_pos hl] at h
    obtain ⟨hn, hc, hF⟩ := Kd.V_at hs0
    obtain ⟨Af, Cf, hI⟩ := recsIn_of (Kd.F_now hF)
    refine (callsIn_wide (n := 3)).1 ((compact_in Fence.wide 3 trivial trivial trivial rfl (Nat.le_refl _) A0 c0 l0 Af Cf hl hc w hI).mono ?_)
    rintro e w' ⟨hq, hb⟩
    rcases hq with ⟨rfl, hz⟩ | ⟨k, hk, hz, rfl⟩
    · rw [hz] at h
      obtain rfl := Option.some.inj h
      exact ⟨_, rfl, Kd.V_below (Kd.V_mono hs0 (fun _ hk => .inl hk)) hb, hb⟩
    · rw [hz] at h
      obtain rfl := Option.some.inj h
      have hF2 := Kd.F_cut (m := k) (c := c0) hF (by omega) hc
      rw [if_neg (by omega)] at hF2
      have hd : (l0.drop k).length = l0.length - k := List.length_drop
      refine ⟨_, rfl, ?_, hb⟩
      have hV : Kd.V k29 29 w w.heap.size (fun k_ => P0_ k_) (.slice (A0.map (·.add (k * 2))) (l0.drop k).length (c0 - k)) (l0.drop k) := Kd.V_mk (by rw [hd]; omega) hF2
      rw [hd] at hV
      exact Kd.V_below (Kd.V_mono hV (fun _ hk => .inl hk)) hb
  · rw [if_neg hl] at h; cases h

/-! ### noonmarkref29_Compact: function 22 -/
def noonmarkref29_Compact.l0 : Nat → List (S24) → Int → Int → Option ((List (S24)))
  | 0, _, _, _ => none
  | k + 1, x0, x3, x4 => if x4 < (x0.length : Int) then (if 0 ≤ x4 then (if ((rd_T24 x0 x4).f0) = 0 then (noonmarkref29_Compact.l0 k x0 x4 (wrap64 (x4 + 1))) else (noonmarkref29_Compact.l0 k x0 x3 (wrap64 (x4 + 1)))) else (none)) else (if 0 ≤ x3 then (if x3 ≤ (x0.length : Int) then (some (x0.drop (x3 : Int).toNat)) else (none)) else (none))
def noonmarkref29_Compact.f (k : Nat) (l0 : List (S24)) : Option ((List (S24))) := noonmarkref29_Compact.l0 k l0 0 0
theorem noonmarkref29_Compact.mono_l : ∀ k, (∀ y0 y1 y2, LeO (noonmarkref29_Compact.l0 k y0 y1 y2) (noonmarkref29_Compact.l0 (k + 1) y0 y1 y2))
  | 0 => fun _ _ _ r h => by simp [noonmarkref29_Compact.l0] at h
  | k + 1 => by
    have ih0 := noonmarkref29_Compact.mono_l k
    · intro y0 y1 y2
      unfold noonmarkref29_Compact.l0
      repeat' first
      | (with_reducible exact ih0 _ _ _)
      | (with_reducible exact LeO.refl _)
      | (with_reducible exact LeO.none _)
      | (with_reducible refine LeO.ite ?_ ?_)
      | (with_reducible refine LeO.bind ?_ (fun _ => ?_))
      | exact ih0 _ _ _
      | exact LeO.none _
      | refine LeO.ite ?_ ?_
      | refine LeO.bind ?_ (fun _ => ?_)
theorem noonmarkref29_Compact.mono : ∀ a0 k, LeO (noonmarkref29_Compact.f k a0) (noonmarkref29_Compact.f (k + 1) a0) := by
  intro a0 k
  have ih0 := noonmarkref29_Compact.mono_l k
  unfold noonmarkref29_Compact.f
  repeat' first
      | (with_reducible exact ih0 _ _ _)
      | (with_reducible exact LeO.refl _)
      | (with_reducible exact LeO.none _)
      | (with_reducible refine LeO.ite ?_ ?_)
      | (with_reducible refine LeO.bind ?_ (fun _ => ?_))
      | exact ih0 _ _ _
      | exact LeO.none _
      | refine LeO.ite ?_ ?_
      | refine LeO.bind ?_ (fun _ => ?_)
set_option maxHeartbeats 8000000 in
set_option maxRecDepth 100000 in
theorem noonmarkref29_Compact.calls (k : Nat) (P0_ : Nat → Prop) (A0 : Option Addr) (c0 : Nat) (l0 : List (S24)) (r : List (S24)) (w : World) (hs0 : Kd.V k24 24 w w.heap.size (fun k_ => P0_ k_) (.slice A0 l0.length c0) l0) (h : noonmarkref29_Compact.f k l0 = some r) :
    Calls Try.prog 22 #[.slice A0 l0.length c0] w fun e w' => ∃ v0_ : Value, e = .returned (v0_) ∧ Kd.V k24 24 w' w.heap.size (fun k_ => (P0_ k_ ∨ w.heap.size ≤ k_)) v0_ r ∧ Below w.heap.size w w' := by
  have HO0 := Aside0.mk (show Kd.V k24 24 w w.heap.size (fun k_ => (P0_ k_ ∨ w.heap.size ≤ k_)) (.slice A0 l0.length c0) l0 from Kd.V_mono hs0 (fun k_ hk => .inl hk))
  have HB := Aside0.mk (Below.refl w.heap.size w)
  have H : (noonmarkref29_Compact.l0 k l0 0 0) = some r := h
  clear h
  have H' := Aside0.mk H
  clear H
  go_enter Try.func22, Try.ntmps22
  go_wp2
  go_loopg [3, 4] k (fun kq v3 v4 w' => ∃ (x3_1 : Int) (x4_1 : Int), v3 = .int .i64 x3_1 ∧ v4 = .int .i64 x4_1 ∧ Aside0 (noonmarkref29_Compact.l0 kq l0 x3_1 x4_1 = some r) ∧ Aside0 (kq ≤ k) ∧ Aside0 (Kd.V k24 24 w' w.heap.size (fun k_ => (P0_ k_ ∨ w.heap.size ≤ k_)) (.slice A0 l0.length c0) l0) ∧ Aside0 (Below w.heap.size w w'))
  case atStart => exact ⟨(0), (0), (by first | rfl | (simp; done) | (simp [*]; done)), (by first | rfl | (simp; done) | (simp [*]; done)), H', ⟨Nat.le_refl _⟩, ⟨by (with_reducible repeat (first | apply Kd.V_alloc | apply Kd.V_drewN | apply Kd.V_drew)); exact HO0.out⟩, ⟨by repeat (first | (with_reducible first | exact HB.out | apply below_alloc | apply pw_below_drewN | apply below_drew1) | exact HB.out)⟩⟩
  case round =>
    clear H'
    obtain ⟨x3_1, x4_1, rfl, rfl, HA, HK1, HO_0, HB⟩ := hrel
    cases gk with
    | zero => exact absurd HA.out (by simp [noonmarkref29_Compact.l0])
    | succ k1 =>
      have H := HA.out
      clear HA
      simp only [noonmarkref29_Compact.l0] at H
      by_cases c2 : x4_1 < (l0.length : Int)
      · rw [if_pos c2] at H
        have c2b0 : decide (x4_1 < (l0.length : Int)) = true := decide_eq_true c2
        clear c2
        by_cases c3 : 0 ≤ x4_1
        · rw [if_pos c3] at H
          have c3b0 : decide (0 ≤ x4_1) = true := decide_eq_true c3
          clear c3
          by_cases c4 : ((rd_T24 l0 x4_1).f0) = 0
          · rw [if_pos c4] at H
            have c4b0 : (((rd_T24 l0 x4_1).f0) == 0) = true := beq_iff_eq.mpr c4
            have c4b1 : (((rd_T24 l0 x4_1).f0) != 0) = false := bne_eq_false_iff_eq.mpr c4
            clear c4
            have H' := Aside0.mk H
            clear H
            have p203 : 0 ≤ (x4_1 : Int) := of_decide_eq_true (by first | (with_reducible assumption) | assumption)
            have q203 : x4_1 < (l0.length : Int) := of_decide_eq_true (by first | (with_reducible assumption) | assumption)
            obtain ⟨ad203, A203_1, c203_1, e203, hx203_0, hx203_1, hl203_1, hi203_1⟩ := at_T24 (Kd.V_reads' HO_0.out).2.2 x4_1 p203 q203
            cases e203
            obtain ⟨ce203, hce203, hMe203, hcc203⟩ := Kd.V_get HO_0.out z24 x4_1 p203 (by first | exact q203 | exact of_decide_eq_true (by first | (with_reducible assumption) | assumption) | (have e_ := (Kd.V_reads' HO_0.out).1; omega))
            obtain ⟨ua203_1, uc203_1, rfl, ul203_1, ge203_1⟩ := k24_openF hMe203
            have hv203_1 := hcc203 1 _ rfl
            rw [add_field _ _ 1 (by omega)] at hv203_1
            replace hv203_1 := Option.some.inj (hv203_1.symm.trans hx203_1)
            injection hv203_1 with hva_ hvn_ hvc_
            rw [hva_] at ge203_1
            rw [hvc_] at ul203_1
            have HL203_1 := Aside0.mk (show Kd.V (Kd.int .u8) 5 _ w.heap.size _ _ ((rd_T24 l0 x4_1).f1) from Kd.V_mk ul203_1 ge203_1)
            clear hva_ hvn_ hvc_ ge203_1 ul203_1
            clear hcc203 hce203
            have HR203_1 := Aside0.mk hi203_1
            have HC203_1 := Aside0.mk hl203_1
            clear hi203_1 hl203_1
            replace p203 := eq_true p203
            replace q203 := eq_true q203
            go_wp2
            go_roundg k1
            case measure => have := HK1.out; omega
            case rel => exact ⟨(x4_1), (wrap64 (x4_1 + 1)), (by first | rfl | (simp; done) | (simp [*]; done)), (by first | rfl | (simp; done) | (simp [*]; done)), H', ⟨by have := HK1.out; omega⟩, ⟨by (with_reducible repeat (first | apply Kd.V_alloc | apply Kd.V_drewN | apply Kd.V_drew)); exact HO_0.out⟩, ⟨by repeat (first | (with_reducible first | exact HB.out | apply below_alloc | apply pw_below_drewN | apply below_drew1) | exact HB.out)⟩⟩
          · rw [if_neg c4] at H
            have c4b0 : (((rd_T24 l0 x4_1).f0) == 0) = false := beq_eq_false_iff_ne.mpr c4
            have c4b1 : (((rd_T24 l0 x4_1).f0) != 0) = true := bne_iff_ne.mpr c4
            have H' := Aside0.mk H
            clear H
            have p203 : 0 ≤ (x4_1 : Int) := of_decide_eq_true (by first | (with_reducible assumption) | assumption)
            have q203 : x4_1 < (l0.length : Int) := of_decide_eq_true (by first | (with_reducible assumption) | assumption)
            obtain ⟨ad203, A203_1, c203_1, e203, hx203_0, hx203_1, hl203_1, hi203_1⟩ := at_T24 (Kd.V_reads' HO_0.out).2.2 x4_1 p203 q203
            cases e203
            obtain ⟨ce203, hce203, hMe203, hcc203⟩ := Kd.V_get HO_0.out z24 x4_1 p203 (by first | exact q203 | exact of_decide_eq_true (by first | (with_reducible assumption) | assumption) | (have e_ := (Kd.V_reads' HO_0.out).1; omega))
            obtain ⟨ua203_1, uc203_1, rfl, ul203_1, ge203_1⟩ := k24_openF hMe203
            have hv203_1 := hcc203 1 _ rfl
            rw [add_field _ _ 1 (by omega)] at hv203_1
            replace hv203_1 := Option.some.inj (hv203_1.symm.trans hx203_1)
            injection hv203_1 with hva_ hvn_ hvc_
            rw [hva_] at ge203_1
            rw [hvc_] at ul203_1
            have HL203_1 := Aside0.mk (show Kd.V (Kd.int .u8) 5 _ w.heap.size _ _ ((rd_T24 l0 x4_1).f1) from Kd.V_mk ul203_1 ge203_1)
            clear hva_ hvn_ hvc_ ge203_1 ul203_1
            clear hcc203 hce203
            have HR203_1 := Aside0.mk hi203_1
            have HC203_1 := Aside0.mk hl203_1
            clear hi203_1 hl203_1
            replace p203 := eq_true p203
            replace q203 := eq_true q203
            go_wp2
            go_roundg k1
            case measure => have := HK1.out; omega
            case rel => exact ⟨(x3_1), (wrap64 (x4_1 + 1)), (by first | rfl | (simp; done) | (simp [*]; done)), (by first | rfl | (simp; done) | (simp [*]; done)), H', ⟨by have := HK1.out; omega⟩, ⟨by (with_reducible repeat (first | apply Kd.V_alloc | apply Kd.V_drewN | apply Kd.V_drew)); exact HO_0.out⟩, ⟨by repeat (first | (with_reducible first | exact HB.out | apply below_alloc | apply pw_below_drewN | apply below_drew1) | exact HB.out)⟩⟩
        · rw [if_neg c3] at H
          exact absurd H (by simp)
      · rw [if_neg c2] at H
        have c2b0 : decide (x4_1 < (l0.length : Int)) = false := decide_eq_false c2
        clear c2
        by_cases c5 : 0 ≤ x3_1
        · rw [if_pos c5] at H
          have c5b0 := eq_true c5
          have c5b1 : decide (0 ≤ x3_1) = true := decide_eq_true c5
          clear c5
          by_cases c6 : x3_1 ≤ (l0.length : Int)
          · rw [if_pos c6] at H
            have c6b0 := eq_true c6
            have c6b1 : decide (x3_1 ≤ (l0.length : Int)) = true := decide_eq_true c6
            clear c6
            obtain ⟨y204, hy204⟩ : ∃ y_ : List (S24), y_ = (l0.drop (x3_1 : Int).toNat) := ⟨_, rfl⟩
            replace H : (some y204) = some r := by first | (rw [hy204]; with_reducible exact H) | (have H2_ := (Option.bind_some _ _).symm.trans H; rw [hy204]; with_reducible exact H2_) | (have H2_ := (Option.bind_some _ _).symm.trans H; with_reducible exact H2_) | with_reducible exact H | (rw [hy204]; exact H) | exact H
            have Ny204 := Aside0.mk hy204
            clear hy204
            obtain rfl := Option.some.inj H
            have q7 : (x3_1 : Int) ≤ ((l0.length : Int) : Int) := of_decide_eq_true (by first | (with_reducible assumption) | assumption)
            obtain ⟨i07, hi07, _, hsz7, _⟩ := info_parts info24
            have hroom7 : l0.length ≤ c0 := (Kd.V_reads' HO_0.out).2.1
            have hC7 : Kd.F k24 _ _ A0 l0.length l0 := (Kd.V_at (base := w.heap.size) HO_0.out).2.2
            have q07 : (0 : Int) ≤ (x3_1 : Int) := of_decide_eq_true (by first | (with_reducible assumption) | assumption)
            have hcut7 := cut_from (P := Try.prog) 35 24 .i64 Try.underlying35 hi07 2 hsz7 A0 l0.length c0 x3_1 q07 q7
            have hr7 := Kd.F_cut (m := (x3_1 : Int).toNat) (c := c0) hC7 (by omega) hroom7
            obtain ⟨A7, hA7⟩ : ∃ A1, A1 = (if c0 = (x3_1 : Int).toNat then A0 else (A0 : Option Addr).map (·.add ((x3_1 : Int).toNat * 2))) := ⟨_, rfl⟩
            obtain ⟨c7, hc7⟩ : ∃ c1, c1 = c0 - (x3_1 : Int).toNat := ⟨_, rfl⟩
            have hy7 : y204.length = l0.length - (x3_1 : Int).toNat := (by rw [Ny204.out, List.length_drop] <;> omega)
            rw [show (l0).drop (x3_1 : Int).toNat = y204 from Ny204.out.symm] at hr7
            replace hr7 : Kd.F k24 _ _ A7 y204.length y204 := (by rw [hA7]; exact hr7)
            rw [← hy7, ← hA7, ← hc7] at hcut7
            have HO208 := Aside0.mk (show Kd.V k24 24 _ w.heap.size _ (.slice A7 y204.length c7) y204 from Kd.V_mk (by rw [hy7, hc7]; exact Nat.sub_le_sub_right hroom7 _) hr7)
            have HC208 := Aside0.mk (show y204.length ≤ c7 from by rw [hy7, hc7]; exact Nat.sub_le_sub_right hroom7 _)
            clear hr7 hC7 hroom7 hi07 hsz7 hc7
            have KY7 := Aside0.mk hy7
            have KA7 := Aside0.mk hA7
            clear hy7 hA7
            replace q7 := eq_true q7
            go_wp2
            go_ret
            exact ⟨_, by first | rfl | (simp [errW_none, errW_some] <;> rfl) | (simp [*, errW_none, errW_some] <;> rfl), by (with_reducible repeat (first | apply Kd.V_alloc | apply Kd.V_drewN | apply Kd.V_drew)); exact HO208.out, by repeat (first | (with_reducible first | exact HB.out | apply below_alloc | apply pw_below_drewN | apply below_drew1) | exact HB.out)⟩
          · rw [if_neg c6] at H
            exact absurd H (by simp)
        · rw [if_neg c5] at H
          exact absurd H (by simp)

/-! ### noonmarklaw29_JournalCompacts: function 5 -/
def noonmarklaw29_JournalCompacts.l0 : Nat → List (S24) → List (S29) → Int → Option (Bool)
  | 0, _, _, _ => none
  | k + 1, x0, x3, x4 => if x4 < (x0.length : Int) then (if 0 ≤ x4 then ((noonmarklaw29_Own.f ((rd_T24 x0 x4).f0) ((rd_T24 x0 x4).f1)).bind fun bt212 => (if x3.length < 4398046511104 then (noonmarklaw29_JournalCompacts.l0 k x0 (x3 ++ [(⟨bt212.1, bt212.2⟩ : S29)]) (wrap64 (x4 + 1))) else (none))) else (none)) else ((journal_Compact.f x3).bind fun t219 => ((noonmarklaw29_Back.f k t219).bind fun t222 => ((noonmarkref29_Compact.f k x0).bind fun t225 => ((noonmarkref29_Same.f k t222 t225).bind fun t228 => (if t228 = true then ((noonmarklaw29_alive.f).bind fun t229 => (some t229)) else (some false))))))
def noonmarklaw29_JournalCompacts.f (k : Nat) (l0 : List (S24)) : Option (Bool) := (noonmarklaw29_Light.f k l0 30).bind fun t209 => (if t209 = true then (noonmarklaw29_JournalCompacts.l0 k l0 ([] : List (S29)) 0) else ((noonmarklaw29_alive.f).bind fun t210 => (some t210)))
theorem noonmarklaw29_JournalCompacts.mono_l : ∀ k, (∀ y0 y1 y2, LeO (noonmarklaw29_JournalCompacts.l0 k y0 y1 y2) (noonmarklaw29_JournalCompacts.l0 (k + 1) y0 y1 y2))
  | 0 => fun _ _ _ r h => by simp [noonmarklaw29_JournalCompacts.l0] at h
  | k + 1 => by
    have ih0 := noonmarklaw29_JournalCompacts.mono_l k
    · intro y0 y1 y2
      unfold noonmarklaw29_JournalCompacts.l0
      repeat' first
      | (with_reducible exact ih0 _ _ _)
      | (with_reducible exact noonmarklaw29_Back.mono _ _)
      | (with_reducible exact noonmarklaw29_Light.mono _ _ _)
      | (with_reducible exact noonmarkref29_Compact.mono _ _)
      | (with_reducible exact noonmarkref29_Same.mono _ _ _)
      | (with_reducible exact LeO.refl _)
      | (with_reducible exact LeO.none _)
      | (with_reducible refine LeO.ite ?_ ?_)
      | (with_reducible refine LeO.bind ?_ (fun _ => ?_))
      | exact ih0 _ _ _
      | exact noonmarklaw29_Back.mono _ _
      | exact noonmarklaw29_Light.mono _ _ _
      | exact noonmarkref29_Compact.mono _ _
      | exact noonmarkref29_Same.mono _ _ _
      | exact LeO.none _
      | refine LeO.ite ?_ ?_
      | refine LeO.bind ?_ (fun _ => ?_)
theorem noonmarklaw29_JournalCompacts.mono : ∀ a0 k, LeO (noonmarklaw29_JournalCompacts.f k a0) (noonmarklaw29_JournalCompacts.f (k + 1) a0) := by
  intro a0 k
  have ih0 := noonmarklaw29_JournalCompacts.mono_l k
  unfold noonmarklaw29_JournalCompacts.f
  repeat' first
      | (with_reducible exact ih0 _ _ _)
      | (with_reducible exact noonmarklaw29_Back.mono _ _)
      | (with_reducible exact noonmarklaw29_Light.mono _ _ _)
      | (with_reducible exact noonmarkref29_Compact.mono _ _)
      | (with_reducible exact noonmarkref29_Same.mono _ _ _)
      | (with_reducible exact LeO.refl _)
      | (with_reducible exact LeO.none _)
      | (with_reducible refine LeO.ite ?_ ?_)
      | (with_reducible refine LeO.bind ?_ (fun _ => ?_))
      | exact ih0 _ _ _
      | exact noonmarklaw29_Back.mono _ _
      | exact noonmarklaw29_Light.mono _ _ _
      | exact noonmarkref29_Compact.mono _ _
      | exact noonmarkref29_Same.mono _ _ _
      | exact LeO.none _
      | refine LeO.ite ?_ ?_
      | refine LeO.bind ?_ (fun _ => ?_)
set_option maxHeartbeats 8000000 in
set_option maxRecDepth 100000 in
theorem noonmarklaw29_JournalCompacts.calls (k : Nat) (A0 : Option Addr) (c0 : Nat) (l0 : List (S24)) (r : Bool) (w : World) (hr0 : Kd.C k24 w A0 l0.length l0) (hc0 : l0.length ≤ c0) (h : noonmarklaw29_JournalCompacts.f k l0 = some r) :
    Calls Try.prog 5 #[.slice A0 l0.length c0] w fun e w' => e = .returned (.bool r) ∧ Below w.heap.size w w' := by
  have hu24 := Try.underlying24
  have HR0 := Aside0.mk hr0
  have HC0 := Aside0.mk hc0
  clear hr0 hc0
  have HB := Aside0.mk (Below.refl w.heap.size w)
  have H : ((noonmarklaw29_Light.f k l0 30).bind fun t209 => (if t209 = true then (noonmarklaw29_JournalCompacts.l0 k l0 ([] : List (S29)) 0) else ((noonmarklaw29_alive.f).bind fun t210 => (some t210)))) = some r := h
  clear h
  replace H := Option.bind_eq_some_iff.mp H
  obtain ⟨t209, A20, H⟩ := H
  replace H : (if t209 = true then (noonmarklaw29_JournalCompacts.l0 k l0 ([] : List (S29)) 0) else ((noonmarklaw29_alive.f).bind fun t210 => (some t210))) = some r := H
  have A2 := Aside0.mk A20
  clear A20
  by_cases c3 : t209 = true
  · subst c3
    have H1 : (noonmarklaw29_JournalCompacts.l0 k l0 ([] : List (S29)) 0) = some r := by rw [if_pos rfl] at H; exact H
    clear H
    have H := H1
    clear H1
    have H' := Aside0.mk H
    clear H
    go_enter Try.func5, Try.ntmps5
    go_wp2_with (first | ((with_reducible refine gate_callee (f := 20) rfl ?_); refine goesL_ (some 6) rfl rfl Try.func20 (by kernel_rfl) rfl #[.slice A0 l0.length c0, .int .i64 30] rfl (by (try simp only [List.map_toArray, List.map_cons, List.map_nil]); first | done | rfl | (simp only [List.length_drop, List.length_take]; rfl)) ?_; (with_reducible refine (noonmarklaw29_Light.calls k _ _ l0 30 true _ ?side1 ?side2 A2.out).mono ?_); (case side1 => repeat (first | exact HR0.out | (with_reducible refine Kd.C_alloc ?_ _) | (with_reducible refine Kd.C_drewN ?_ _) | (with_reducible refine Kd.C_drew ?_))); (case side2 => exact HC0.out); rintro e w' ⟨rfl, ⟨nd, rfl⟩⟩; refine ⟨_, rfl, ?_⟩))
    go_loopg [3, 4] k (fun kq v3 v4 w' => ∃ (x3_1 : List (S29)) (x4_1 : Int), v4 = .int .i64 x4_1 ∧ Aside0 (noonmarklaw29_JournalCompacts.l0 kq l0 x3_1 x4_1 = some r) ∧ Aside0 (kq ≤ k) ∧ Aside0 (Kd.N k29 29 w' w.heap.size (fun _ => True) v3 x3_1) ∧ Aside0 (Below w.heap.size w w'))
    case atStart => exact ⟨(([] : List (S29))), (0), (by first | rfl | (simp; done) | (simp [*]; done)), H', ⟨Nat.le_refl _⟩, ⟨by first | exact Kd.S_nil _ _ _ _ _ | exact Kd.N_nil _ _ _ _ _ | exact Kd.V_nil _ _ _ _ _ | exact Kd.Q_nil _ _ _ _ _ | exact Kd.R_nil _ _ _ _ _⟩, ⟨by repeat (first | (with_reducible first | exact HB.out | apply below_alloc | apply pw_below_drewN | apply below_drew1) | exact HB.out)⟩⟩
    case round =>
      clear H'
      try clear c2
      try clear p2
      try clear c3
      obtain ⟨x3_1, x4_1, rfl, HA, HK1, HO_3, HB⟩ := hrel
      cases gk with
      | zero => exact absurd HA.out (by simp [noonmarklaw29_JournalCompacts.l0])
      | succ k1 =>
        have H := HA.out
        clear HA
        simp only [noonmarklaw29_JournalCompacts.l0] at H
        by_cases c4 : x4_1 < (l0.length : Int)
        · rw [if_pos c4] at H
          have c4b0 : decide (x4_1 < (l0.length : Int)) = true := decide_eq_true c4
          clear c4
          by_cases c5 : 0 ≤ x4_1
          · rw [if_pos c5] at H
            have c5b0 : decide (0 ≤ x4_1) = true := decide_eq_true c5
            clear c5
            replace H := Option.bind_eq_some_iff.mp H
            obtain ⟨⟨t212, t213⟩, A60, H⟩ := H
            replace H : (if x3_1.length < 4398046511104 then (noonmarklaw29_JournalCompacts.l0 k1 l0 (x3_1 ++ [(⟨t212, t213⟩ : S29)]) (wrap64 (x4_1 + 1))) else (none)) = some r := H
            have A6 := Aside0.mk A60
            clear A60
            by_cases c7 : x3_1.length < 4398046511104
            · rw [if_pos c7] at H
              have LMc7 := Aside0.mk c7
              clear c7
              obtain ⟨y216, hy216⟩ : ∃ y_ : List (S29), y_ = (x3_1 ++ [(⟨t212, t213⟩ : S29)]) := ⟨_, rfl⟩
              replace H : (noonmarklaw29_JournalCompacts.l0 k1 l0 y216 (wrap64 (x4_1 + 1))) = some r := by first | (rw [hy216]; with_reducible exact H) | (have H2_ := (Option.bind_some _ _).symm.trans H; rw [hy216]; with_reducible exact H2_) | (have H2_ := (Option.bind_some _ _).symm.trans H; with_reducible exact H2_) | with_reducible exact H | (rw [hy216]; exact H) | exact H
              have Ny216 := Aside0.mk hy216
              clear hy216
              have H' := Aside0.mk H
              clear H
              have p211 : 0 ≤ (x4_1 : Int) := of_decide_eq_true (by first | (with_reducible assumption) | assumption)
              have q211 : x4_1 < (l0.length : Int) := of_decide_eq_true (by first | (with_reducible assumption) | assumption)
              obtain ⟨ad211, A211_1, c211_1, e211, hx211_0, hx211_1, hl211_1, hi211_1⟩ := at_T24 HR0.out x4_1 p211 q211
              cases e211
              replace hx211_0 := (HB.out.cell (World.block_lt_of_cell? w _ hx211_0)).trans hx211_0
              replace hx211_1 := (HB.out.cell (World.block_lt_of_cell? w _ hx211_1)).trans hx211_1
              have HR211_1 := Aside0.mk hi211_1
              have HC211_1 := Aside0.mk hl211_1
              clear hi211_1 hl211_1
              replace p211 := eq_true p211
              replace q211 := eq_true q211
              go_wp2_with (first | ((with_reducible refine gate_callee (f := 11) rfl ?_); refine goesL_ (some 20) rfl rfl Try.func11 (by kernel_rfl) rfl #[.agg #[.int .i64 ((rd_T24 l0 x4_1).f0), .slice A211_1 ((rd_T24 l0 x4_1).f1).length c211_1]] rfl (by (try simp only [List.map_toArray, List.map_cons, List.map_nil]); first | done | rfl | (simp only [List.length_drop, List.length_take]; rfl)) ?_; (with_reducible refine (noonmarklaw29_Own.calls ((rd_T24 l0 x4_1).f0) (fun k_ => k_ < w.heap.size) _ _ ((rd_T24 l0 x4_1).f1) t212 t213 _ ?side1 A6.out).mono ?_); (case side1 => exact Kd.V_mk HC211_1.out (Kd.F_below (Kd.C_F (Kd.heap_int .u8) HR211_1.out) (by repeat (first | (with_reducible first | exact HB.out | apply below_alloc | apply pw_below_drewN | apply below_drew1) | exact HB.out)))); rintro e w8 ⟨v214, rfl, ho0, hb⟩; refine ⟨_, rfl, ?_⟩; have n0_ := Aside0.mk (Kd.N_below (by (with_reducible repeat (first | apply Kd.N_alloc | apply Kd.N_drewN | apply Kd.N_drew)); exact HO_3.out) hb); have n1_ := Aside0.mk (Kd.V_lower (Kd.V_mono (ok' := fun k_ => some k_ ≠ (u3 : Value).ownBlock) ho0 (fun k_ hk_ => Or.elim hk_ (fun hs_ => fun e_ => Nat.not_le.2 hs_ (Kd.N_base HO_3.out k_ e_.symm)) (fun hn_ => (Kd.fresh' (Kd.N_lt (by (with_reducible repeat (first | apply Kd.N_alloc | apply Kd.N_drewN | apply Kd.N_drew)); exact HO_3.out)) k_ hn_)))) (below_size (by repeat (first | (with_reducible first | exact HB.out | apply below_alloc | apply pw_below_drewN | apply below_drew1) | exact HB.out)))); have n2_ := Aside0.mk (below_step (by repeat (first | (with_reducible first | exact HB.out | apply below_alloc | apply pw_below_drewN | apply below_drew1) | exact HB.out)) hb); clear HO_3; clear HB; have HO_3 := n0_; have HO215 := n1_; have HB := n2_; clear n0_ n1_ n2_; (try clear hb); (try clear hb2); (try clear hk); (try clear hi); (try clear ho0); obtain ⟨Ao10, co10, eo10⟩ := Kd.V_slice HO215.out; subst eo10) | ((with_reducible refine gate_builtin (b := .append) (xs := #[.tmp 15, .tmp 21]) rfl ?_); at_builtin; refine Kd.N_append k29 (w0 := w) w.heap.size rfl (.tmp 15) (.tmp 21) 32 29 (.agg #[(.int .i64 0), (.slice none 0 0)]) 32 rfl Try.underlying32 info29 rfl (by decide) (by omega) u3 x3_1 (⟨t212, t213⟩ : S29) [.int .i64 t212, .slice Ao10 t213.length co10] (fun _ => True) (fun k_ => ((fun _ => True)) k_ ∧ some k_ ≠ (u3 : Value).ownBlock) rfl rfl ?aP (fun _ hk => hk) ?aF ?aO ?aB ?aS ?aL ?_; (case aP => exact (k29_mkF _ _ (⟨t212, t213⟩ : S29) (Kd.V_reads' (Kd.V_mono (ok' := (fun k_ => ((fun _ => True)) k_ ∧ some k_ ≠ (u3 : Value).ownBlock)) (HO215.out) (fun k_ hk => ⟨trivial, hk⟩))).2.1 (Kd.V_F (Kd.V_mono (ok' := (fun k_ => ((fun _ => True)) k_ ∧ some k_ ≠ (u3 : Value).ownBlock)) (HO215.out) (fun k_ hk => ⟨trivial, hk⟩))))); (case aB => exact (by repeat (first | (with_reducible first | exact HB.out | apply below_alloc | apply pw_below_drewN | apply below_drew1) | exact HB.out))); (case aF => exact (fun _ _ => trivial)); (case aO => exact (by (with_reducible repeat (first | apply Kd.N_alloc | apply Kd.N_drewN | apply Kd.N_drew)); exact HO_3.out)); (case aS => exact (below_size (by repeat (first | (with_reducible first | exact HB.out | apply below_alloc | apply pw_below_drewN | apply below_drew1) | exact HB.out)))); (case aL => have := LMc7.out; omega); intro v217 w9 ho hb hg hat; rw [← Ny216.out] at ho; have n0_ := Aside0.mk (Kd.V_afterv (ok := (fun _ => True)) (by (with_reducible repeat (first | apply Kd.V_alloc | apply Kd.V_drewN | apply Kd.V_drew)); exact Kd.V_mono HO215.out (fun _ hk => ⟨trivial, hk⟩)) hg hat); have n1_ := Aside0.mk (hb); have n2_ := Aside0.mk (ho); clear HO215; clear HB; clear HO_3; have HO215 := n0_; have HB := n1_; have HO218 := n2_; clear n0_ n1_ n2_; clear ho hb hg hat))
              go_roundg k1
              case measure => have := HK1.out; omega
              case rel => exact ⟨(y216), (wrap64 (x4_1 + 1)), (by first | rfl | (simp; done) | (simp [*]; done)), H', ⟨by have := HK1.out; omega⟩, ⟨by (with_reducible repeat (first | apply Kd.N_alloc | apply Kd.N_drewN | apply Kd.N_drew)); exact HO218.out⟩, ⟨by repeat (first | (with_reducible first | exact HB.out | apply below_alloc | apply pw_below_drewN | apply below_drew1) | exact HB.out)⟩⟩
            · rw [if_neg c7] at H
              exact absurd H (by simp)
          · rw [if_neg c5] at H
            exact absurd H (by simp)
        · rw [if_neg c4] at H
          have c4b0 : decide (x4_1 < (l0.length : Int)) = false := decide_eq_false c4
          clear c4
          replace H := Option.bind_eq_some_iff.mp H
          obtain ⟨t219, A110, H⟩ := H
          replace H : ((noonmarklaw29_Back.f k1 t219).bind fun t222 => ((noonmarkref29_Compact.f k1 l0).bind fun t225 => ((noonmarkref29_Same.f k1 t222 t225).bind fun t228 => (if t228 = true then ((noonmarklaw29_alive.f).bind fun t229 => (some t229)) else (some false))))) = some r := H
          have A11 := Aside0.mk A110
          clear A110
          replace H := Option.bind_eq_some_iff.mp H
          obtain ⟨t222, A120, H⟩ := H
          replace H : ((noonmarkref29_Compact.f k1 l0).bind fun t225 => ((noonmarkref29_Same.f k1 t222 t225).bind fun t228 => (if t228 = true then ((noonmarklaw29_alive.f).bind fun t229 => (some t229)) else (some false)))) = some r := H
          have A12 := Aside0.mk A120
          clear A120
          replace H := Option.bind_eq_some_iff.mp H
          obtain ⟨t225, A130, H⟩ := H
          replace H : ((noonmarkref29_Same.f k1 t222 t225).bind fun t228 => (if t228 = true then ((noonmarklaw29_alive.f).bind fun t229 => (some t229)) else (some false))) = some r := H
          have A13 := Aside0.mk A130
          clear A130
          replace H := Option.bind_eq_some_iff.mp H
          obtain ⟨t228, A140, H⟩ := H
          replace H : (if t228 = true then ((noonmarklaw29_alive.f).bind fun t229 => (some t229)) else (some false)) = some r := H
          have A14 := Aside0.mk A140
          clear A140
          by_cases c15 : t228 = true
          · subst c15
            have H1 : ((noonmarklaw29_alive.f).bind fun t229 => (some t229)) = some r := by rw [if_pos rfl] at H; exact H
            clear H
            have H := H1
            clear H1
            replace H := Option.bind_eq_some_iff.mp H
            obtain ⟨t229, A160, H⟩ := H
            replace H : (some t229) = some r := H
            have A16 := Aside0.mk A160
            clear A160
            obtain rfl := Option.some.inj H
            obtain ⟨Ao17, co17, eo17⟩ := Kd.N_slice HO_3.out
            subst eo17
            go_wp2_with (first | ((with_reducible refine gate_callee (f := 21) rfl ?_); refine goesL_ (some 24) rfl rfl Try.func21 (by kernel_rfl) rfl #[.slice Ao17 x3_1.length co17] rfl (by (try simp only [List.map_toArray, List.map_cons, List.map_nil]); first | done | rfl | (simp only [List.length_drop, List.length_take]; rfl)) ?_; (with_reducible refine (journal_Compact.calls (fun k_ => True) _ _ x3_1 t219 _ ?side1 A11.out).mono ?_); (case side1 => exact Kd.N_V (HO_3.out)); rintro e w18 ⟨v220, rfl, ho0, hb⟩; refine ⟨_, rfl, ?_⟩; have n0_ := Aside0.mk (Kd.N_below (by (with_reducible repeat (first | apply Kd.N_alloc | apply Kd.N_drewN | apply Kd.N_drew)); exact HO_3.out) hb); have n1_ := Aside0.mk (Kd.V_lower (Kd.V_mono (ok' := fun k_ => True) ho0 (fun k_ hk_ => trivial)) (below_size (by repeat (first | (with_reducible first | exact HB.out | apply below_alloc | apply pw_below_drewN | apply below_drew1) | exact HB.out)))); have n2_ := Aside0.mk (below_step (by repeat (first | (with_reducible first | exact HB.out | apply below_alloc | apply pw_below_drewN | apply below_drew1) | exact HB.out)) hb); clear HO_3; clear HB; have HO_3 := n0_; have HO221 := n1_; have HB := n2_; clear n0_ n1_ n2_; (try clear hb); (try clear hb2); (try clear hk); (try clear hi); (try clear ho0); obtain ⟨Ao19, co19, eo19⟩ := Kd.V_slice HO221.out; subst eo19) | ((with_reducible refine gate_callee (f := 17) rfl ?_); refine goesL_ (some 25) rfl rfl Try.func17 (by kernel_rfl) rfl #[.slice Ao19 t219.length co19] rfl (by (try simp only [List.map_toArray, List.map_cons, List.map_nil]); first | done | rfl | (simp only [List.length_drop, List.length_take]; rfl)) ?_; (with_reducible refine (noonmarklaw29_Back.calls k1 (fun k_ => True) _ _ t219 t222 _ ?side1 A12.out).mono ?_); (case side1 => exact HO221.out); rintro e w20 ⟨v223, rfl, ho0, hb⟩; refine ⟨_, rfl, ?_⟩; have n0_ := Aside0.mk (Kd.N_elder' (by (with_reducible repeat (first | apply Kd.N_alloc | apply Kd.N_drewN | apply Kd.N_drew)); exact HO_3.out) (Kd.N_base ho0) hb); have n1_ := Aside0.mk (Kd.V_elder' (by (with_reducible repeat (first | apply Kd.V_alloc | apply Kd.V_drewN | apply Kd.V_drew)); exact HO221.out) (Kd.N_base ho0) hb); have n2_ := Aside0.mk (Kd.N_lower (Kd.N_mono (ok' := fun k_ => True) ho0 (fun k_ hk_ => trivial)) (below_size (by repeat (first | (with_reducible first | exact HB.out | apply below_alloc | apply pw_below_drewN | apply below_drew1) | exact HB.out)))); have n3_ := Aside0.mk (below_step (by repeat (first | (with_reducible first | exact HB.out | apply below_alloc | apply pw_below_drewN | apply below_drew1) | exact HB.out)) hb); clear HO_3; clear HO221; clear HB; have HO_3 := n0_; have HO221 := n1_; have HO224 := n2_; have HB := n3_; clear n0_ n1_ n2_ n3_; (try clear hb); (try clear hb2); (try clear hk); (try clear hi); (try clear ho0)) | ((with_reducible refine gate_callee (f := 22) rfl ?_); refine goesL_ (some 27) rfl rfl Try.func22 (by kernel_rfl) rfl #[.slice A0 l0.length c0] rfl (by (try simp only [List.map_toArray, List.map_cons, List.map_nil]); first | done | rfl | (simp only [List.length_drop, List.length_take]; rfl)) ?_; (with_reducible refine (noonmarkref29_Compact.calls k1 (fun k_ => k_ < w.heap.size) _ _ l0 t225 _ ?side1 A13.out).mono ?_); (case side1 => exact Kd.V_mk HC0.out (Kd.F_below (Kd.C_F k24_heap HR0.out) (by repeat (first | (with_reducible first | exact HB.out | apply below_alloc | apply pw_below_drewN | apply below_drew1) | exact HB.out)))); rintro e w21 ⟨v226, rfl, ho0, hb⟩; refine ⟨_, rfl, ?_⟩; have n0_ := Aside0.mk (Kd.N_below (by (with_reducible repeat (first | apply Kd.N_alloc | apply Kd.N_drewN | apply Kd.N_drew)); exact HO_3.out) hb); have n1_ := Aside0.mk (Kd.V_below (by (with_reducible repeat (first | apply Kd.V_alloc | apply Kd.V_drewN | apply Kd.V_drew)); exact HO221.out) hb); have n2_ := Aside0.mk (Kd.N_below (by (with_reducible repeat (first | apply Kd.N_alloc | apply Kd.N_drewN | apply Kd.N_drew)); exact HO224.out) hb); have n3_ := Aside0.mk (Kd.V_lower (Kd.V_mono (ok' := fun k_ => some k_ ≠ (.slice Ao17 x3_1.length co17 : Value).ownBlock ∧ some k_ ≠ (v223 : Value).ownBlock) ho0 (fun k_ hk_ => ⟨Or.elim hk_ (fun hs_ => fun e_ => Nat.not_le.2 hs_ (Kd.N_base HO_3.out k_ e_.symm)) (fun hn_ => (Kd.fresh' (Kd.N_lt (by (with_reducible repeat (first | apply Kd.N_alloc | apply Kd.N_drewN | apply Kd.N_drew)); exact HO_3.out)) k_ hn_)), Or.elim hk_ (fun hs_ => fun e_ => Nat.not_le.2 hs_ (Kd.N_base HO224.out k_ e_.symm)) (fun hn_ => (Kd.fresh' (Kd.N_lt (by (with_reducible repeat (first | apply Kd.N_alloc | apply Kd.N_drewN | apply Kd.N_drew)); exact HO224.out)) k_ hn_))⟩)) (below_size (by repeat (first | (with_reducible first | exact HB.out | apply below_alloc | apply pw_below_drewN | apply below_drew1) | exact HB.out)))); have n4_ := Aside0.mk (below_step (by repeat (first | (with_reducible first | exact HB.out | apply below_alloc | apply pw_below_drewN | apply below_drew1) | exact HB.out)) hb); clear HO_3; clear HO221; clear HO224; clear HB; have HO_3 := n0_; have HO221 := n1_; have HO224 := n2_; have HO227 := n3_; have HB := n4_; clear n0_ n1_ n2_ n3_ n4_; (try clear hb); (try clear hb2); (try clear hk); (try clear hi); (try clear ho0); obtain ⟨Ao22, co22, eo22⟩ := Kd.N_slice HO224.out; subst eo22; obtain ⟨Ao23, co23, eo23⟩ := Kd.V_slice HO227.out; subst eo23) | ((with_reducible refine gate_callee (f := 16) rfl ?_); refine goesL_ (some 28) rfl rfl Try.func16 (by kernel_rfl) rfl #[.slice Ao22 t222.length co22, .slice Ao23 t225.length co23] rfl (by (try simp only [List.map_toArray, List.map_cons, List.map_nil]); first | done | rfl | (simp only [List.length_drop, List.length_take]; rfl)) ?_; (with_reducible refine (noonmarkref29_Same.calls k1 _ _ t222 _ _ t225 true _ ?side1 ?side2 ?side3 ?side4 A14.out).mono ?_); (case side1 => repeat (first | exact (Kd.N_reads' HO224.out).2.2 | (with_reducible refine Kd.C_alloc ?_ _) | (with_reducible refine Kd.C_drewN ?_ _) | (with_reducible refine Kd.C_drew ?_))); (case side2 => exact (Kd.N_reads' HO224.out).2.1); (case side3 => repeat (first | exact (Kd.V_reads' HO227.out).2.2 | (with_reducible refine Kd.C_alloc ?_ _) | (with_reducible refine Kd.C_drewN ?_ _) | (with_reducible refine Kd.C_drew ?_))); (case side4 => exact (Kd.V_reads' HO227.out).2.1); rintro e w' ⟨rfl, ⟨nd, rfl⟩⟩; refine ⟨_, rfl, ?_⟩) | (go_at_call 9; (with_reducible refine (noonmarklaw29_alive.calls  t229 _ A16.out).mono ?_); rintro e w24 ⟨rfl, hb⟩; have n0_ := Aside0.mk (Kd.N_below (by (with_reducible repeat (first | apply Kd.N_alloc | apply Kd.N_drewN | apply Kd.N_drew)); exact HO_3.out) hb); have n1_ := Aside0.mk (Kd.V_below (by (with_reducible repeat (first | apply Kd.V_alloc | apply Kd.V_drewN | apply Kd.V_drew)); exact HO221.out) hb); have n2_ := Aside0.mk (Kd.N_below (by (with_reducible repeat (first | apply Kd.N_alloc | apply Kd.N_drewN | apply Kd.N_drew)); exact HO224.out) hb); have n3_ := Aside0.mk (Kd.V_below (by (with_reducible repeat (first | apply Kd.V_alloc | apply Kd.V_drewN | apply Kd.V_drew)); exact HO227.out) hb); have n4_ := Aside0.mk (below_step (by repeat (first | (with_reducible first | exact HB.out | apply below_alloc | apply pw_below_drewN | apply below_drew1) | exact HB.out)) hb); clear HO_3; clear HO221; clear HO224; clear HO227; clear HB; have HO_3 := n0_; have HO221 := n1_; have HO224 := n2_; have HO227 := n3_; have HB := n4_; clear n0_ n1_ n2_ n3_ n4_; (try clear hb); (try clear hb2); (try clear hk); (try clear hi)))
            go_ret
            exact ⟨by first | rfl | (simp [errW_none, errW_some] <;> rfl) | (simp [*, errW_none, errW_some] <;> rfl), by repeat (first | (with_reducible first | exact HB.out | apply below_alloc | apply pw_below_drewN | apply below_drew1) | exact HB.out)⟩
          · replace c15 := Bool.eq_false_iff.mpr c15
            subst c15
            have H1 : (some false) = some r := by rw [if_neg (show ¬ (false = true) by decide)] at H; exact H
            clear H
            have H := H1
            clear H1
            obtain rfl := Option.some.inj H
            obtain ⟨Ao25, co25, eo25⟩ := Kd.N_slice HO_3.out
            subst eo25
            go_wp2_with (first | ((with_reducible refine gate_callee (f := 21) rfl ?_); refine goesL_ (some 24) rfl rfl Try.func21 (by kernel_rfl) rfl #[.slice Ao25 x3_1.length co25] rfl (by (try simp only [List.map_toArray, List.map_cons, List.map_nil]); first | done | rfl | (simp only [List.length_drop, List.length_take]; rfl)) ?_; (with_reducible refine (journal_Compact.calls (fun k_ => True) _ _ x3_1 t219 _ ?side1 A11.out).mono ?_); (case side1 => exact Kd.N_V (HO_3.out)); rintro e w26 ⟨v220, rfl, ho0, hb⟩; refine ⟨_, rfl, ?_⟩; have n0_ := Aside0.mk (Kd.N_below (by (with_reducible repeat (first | apply Kd.N_alloc | apply Kd.N_drewN | apply Kd.N_drew)); exact HO_3.out) hb); have n1_ := Aside0.mk (Kd.V_lower (Kd.V_mono (ok' := fun k_ => True) ho0 (fun k_ hk_ => trivial)) (below_size (by repeat (first | (with_reducible first | exact HB.out | apply below_alloc | apply pw_below_drewN | apply below_drew1) | exact HB.out)))); have n2_ := Aside0.mk (below_step (by repeat (first | (with_reducible first | exact HB.out | apply below_alloc | apply pw_below_drewN | apply below_drew1) | exact HB.out)) hb); clear HO_3; clear HB; have HO_3 := n0_; have HO221 := n1_; have HB := n2_; clear n0_ n1_ n2_; (try clear hb); (try clear hb2); (try clear hk); (try clear hi); (try clear ho0); obtain ⟨Ao27, co27, eo27⟩ := Kd.V_slice HO221.out; subst eo27) | ((with_reducible refine gate_callee (f := 17) rfl ?_); refine goesL_ (some 25) rfl rfl Try.func17 (by kernel_rfl) rfl #[.slice Ao27 t219.length co27] rfl (by (try simp only [List.map_toArray, List.map_cons, List.map_nil]); first | done | rfl | (simp only [List.length_drop, List.length_take]; rfl)) ?_; (with_reducible refine (noonmarklaw29_Back.calls k1 (fun k_ => True) _ _ t219 t222 _ ?side1 A12.out).mono ?_); (case side1 => exact HO221.out); rintro e w28 ⟨v223, rfl, ho0, hb⟩; refine ⟨_, rfl, ?_⟩; have n0_ := Aside0.mk (Kd.N_elder' (by (with_reducible repeat (first | apply Kd.N_alloc | apply Kd.N_drewN | apply Kd.N_drew)); exact HO_3.out) (Kd.N_base ho0) hb); have n1_ := Aside0.mk (Kd.V_elder' (by (with_reducible repeat (first | apply Kd.V_alloc | apply Kd.V_drewN | apply Kd.V_drew)); exact HO221.out) (Kd.N_base ho0) hb); have n2_ := Aside0.mk (Kd.N_lower (Kd.N_mono (ok' := fun k_ => True) ho0 (fun k_ hk_ => trivial)) (below_size (by repeat (first | (with_reducible first | exact HB.out | apply below_alloc | apply pw_below_drewN | apply below_drew1) | exact HB.out)))); have n3_ := Aside0.mk (below_step (by repeat (first | (with_reducible first | exact HB.out | apply below_alloc | apply pw_below_drewN | apply below_drew1) | exact HB.out)) hb); clear HO_3; clear HO221; clear HB; have HO_3 := n0_; have HO221 := n1_; have HO224 := n2_; have HB := n3_; clear n0_ n1_ n2_ n3_; (try clear hb); (try clear hb2); (try clear hk); (try clear hi); (try clear ho0)) | ((with_reducible refine gate_callee (f := 22) rfl ?_); refine goesL_ (some 27) rfl rfl Try.func22 (by kernel_rfl) rfl #[.slice A0 l0.length c0] rfl (by (try simp only [List.map_toArray, List.map_cons, List.map_nil]); first | done | rfl | (simp only [List.length_drop, List.length_take]; rfl)) ?_; (with_reducible refine (noonmarkref29_Compact.calls k1 (fun k_ => k_ < w.heap.size) _ _ l0 t225 _ ?side1 A13.out).mono ?_); (case side1 => exact Kd.V_mk HC0.out (Kd.F_below (Kd.C_F k24_heap HR0.out) (by repeat (first | (with_reducible first | exact HB.out | apply below_alloc | apply pw_below_drewN | apply below_drew1) | exact HB.out)))); rintro e w29 ⟨v226, rfl, ho0, hb⟩; refine ⟨_, rfl, ?_⟩; have n0_ := Aside0.mk (Kd.N_below (by (with_reducible repeat (first | apply Kd.N_alloc | apply Kd.N_drewN | apply Kd.N_drew)); exact HO_3.out) hb); have n1_ := Aside0.mk (Kd.V_below (by (with_reducible repeat (first | apply Kd.V_alloc | apply Kd.V_drewN | apply Kd.V_drew)); exact HO221.out) hb); have n2_ := Aside0.mk (Kd.N_below (by (with_reducible repeat (first | apply Kd.N_alloc | apply Kd.N_drewN | apply Kd.N_drew)); exact HO224.out) hb); have n3_ := Aside0.mk (Kd.V_lower (Kd.V_mono (ok' := fun k_ => some k_ ≠ (.slice Ao25 x3_1.length co25 : Value).ownBlock ∧ some k_ ≠ (v223 : Value).ownBlock) ho0 (fun k_ hk_ => ⟨Or.elim hk_ (fun hs_ => fun e_ => Nat.not_le.2 hs_ (Kd.N_base HO_3.out k_ e_.symm)) (fun hn_ => (Kd.fresh' (Kd.N_lt (by (with_reducible repeat (first | apply Kd.N_alloc | apply Kd.N_drewN | apply Kd.N_drew)); exact HO_3.out)) k_ hn_)), Or.elim hk_ (fun hs_ => fun e_ => Nat.not_le.2 hs_ (Kd.N_base HO224.out k_ e_.symm)) (fun hn_ => (Kd.fresh' (Kd.N_lt (by (with_reducible repeat (first | apply Kd.N_alloc | apply Kd.N_drewN | apply Kd.N_drew)); exact HO224.out)) k_ hn_))⟩)) (below_size (by repeat (first | (with_reducible first | exact HB.out | apply below_alloc | apply pw_below_drewN | apply below_drew1) | exact HB.out)))); have n4_ := Aside0.mk (below_step (by repeat (first | (with_reducible first | exact HB.out | apply below_alloc | apply pw_below_drewN | apply below_drew1) | exact HB.out)) hb); clear HO_3; clear HO221; clear HO224; clear HB; have HO_3 := n0_; have HO221 := n1_; have HO224 := n2_; have HO227 := n3_; have HB := n4_; clear n0_ n1_ n2_ n3_ n4_; (try clear hb); (try clear hb2); (try clear hk); (try clear hi); (try clear ho0); obtain ⟨Ao30, co30, eo30⟩ := Kd.N_slice HO224.out; subst eo30; obtain ⟨Ao31, co31, eo31⟩ := Kd.V_slice HO227.out; subst eo31) | ((with_reducible refine gate_callee (f := 16) rfl ?_); refine goesL_ (some 28) rfl rfl Try.func16 (by kernel_rfl) rfl #[.slice Ao30 t222.length co30, .slice Ao31 t225.length co31] rfl (by (try simp only [List.map_toArray, List.map_cons, List.map_nil]); first | done | rfl | (simp only [List.length_drop, List.length_take]; rfl)) ?_; (with_reducible refine (noonmarkref29_Same.calls k1 _ _ t222 _ _ t225 false _ ?side1 ?side2 ?side3 ?side4 A14.out).mono ?_); (case side1 => repeat (first | exact (Kd.N_reads' HO224.out).2.2 | (with_reducible refine Kd.C_alloc ?_ _) | (with_reducible refine Kd.C_drewN ?_ _) | (with_reducible refine Kd.C_drew ?_))); (case side2 => exact (Kd.N_reads' HO224.out).2.1); (case side3 => repeat (first | exact (Kd.V_reads' HO227.out).2.2 | (with_reducible refine Kd.C_alloc ?_ _) | (with_reducible refine Kd.C_drewN ?_ _) | (with_reducible refine Kd.C_drew ?_))); (case side4 => exact (Kd.V_reads' HO227.out).2.1); rintro e w' ⟨rfl, ⟨nd, rfl⟩⟩; refine ⟨_, rfl, ?_⟩))
            go_ret
            exact ⟨by first | rfl | (simp [errW_none, errW_some] <;> rfl) | (simp [*, errW_none, errW_some] <;> rfl), by repeat (first | (with_reducible first | exact HB.out | apply below_alloc | apply pw_below_drewN | apply below_drew1) | exact HB.out)⟩
  · replace c3 := Bool.eq_false_iff.mpr c3
    subst c3
    have H1 : ((noonmarklaw29_alive.f).bind fun t210 => (some t210)) = some r := by rw [if_neg (show ¬ (false = true) by decide)] at H; exact H
    clear H
    have H := H1
    clear H1
    replace H := Option.bind_eq_some_iff.mp H
    obtain ⟨t210, A320, H⟩ := H
    replace H : (some t210) = some r := H
    have A32 := Aside0.mk A320
    clear A320
    obtain rfl := Option.some.inj H
    go_enter Try.func5, Try.ntmps5
    go_wp2_with (first | ((with_reducible refine gate_callee (f := 20) rfl ?_); refine goesL_ (some 6) rfl rfl Try.func20 (by kernel_rfl) rfl #[.slice A0 l0.length c0, .int .i64 30] rfl (by (try simp only [List.map_toArray, List.map_cons, List.map_nil]); first | done | rfl | (simp only [List.length_drop, List.length_take]; rfl)) ?_; (with_reducible refine (noonmarklaw29_Light.calls k _ _ l0 30 false _ ?side1 ?side2 A2.out).mono ?_); (case side1 => repeat (first | exact HR0.out | (with_reducible refine Kd.C_alloc ?_ _) | (with_reducible refine Kd.C_drewN ?_ _) | (with_reducible refine Kd.C_drew ?_))); (case side2 => exact HC0.out); rintro e w' ⟨rfl, ⟨nd, rfl⟩⟩; refine ⟨_, rfl, ?_⟩) | ((with_reducible refine gate_callee (f := 9) rfl ?_); refine goesL_ (some 8) rfl rfl Try.func9 (by kernel_rfl) rfl #[] rfl (by (try simp only [List.map_toArray, List.map_cons, List.map_nil]); first | done | rfl | (simp only [List.length_drop, List.length_take]; rfl)) ?_; (with_reducible refine (noonmarklaw29_alive.calls  t210 _ A32.out).mono ?_); rintro e w33 ⟨rfl, hb⟩; refine ⟨_, rfl, ?_⟩; have n0_ := Aside0.mk (below_step (by repeat (first | (with_reducible first | exact HB.out | apply below_alloc | apply pw_below_drewN | apply below_drew1) | exact HB.out)) hb); clear HB; have HB := n0_; clear n0_; (try clear hb); (try clear hb2); (try clear hk); (try clear hi)))
    go_ret
    exact ⟨by first | rfl | (simp [errW_none, errW_some] <;> rfl) | (simp [*, errW_none, errW_some] <;> rfl), by repeat (first | (with_reducible first | exact HB.out | apply below_alloc | apply pw_below_drewN | apply below_drew1) | exact HB.out)⟩

-- NOT PRINTED: function 26 (journal_Disk_Bytes)

-- NOT PRINTED: function 27 (journal_Disk_Synced)

-- NOT PRINTED: function 28 (journal_Disk_Crash)

-- NOT PRINTED: function 6 (noonmarklaw29_JournalDisks)

-- NOT PRINTED: function 7 (noonmarklaw29_JournalCrash)

-- NOT PRINTED: function 8 (noonmarklaw29_JournalNils)

end Go.Proofs.Ytmcdpgopjfpjeaa.S
