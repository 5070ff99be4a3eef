-- Written by a program of this session for this claim (it follows the print's forms). Not trusted: Lean checks it.
import Derived.Test.YtmcdpgopjfpjeaaS0
import Derived.Test.YtmcdpgopjfpjeaaS1
import Derived.Test.YtmcdpgopjfpjeaaS2
namespace Go.Proofs.Ytmcdpgopjfpjeaa.S
open Go.RowKit Go.Proofs.YtmcdpgopjfpjeaaW.PrintWords Go.Proofs.YtmcdpgopjfpjeaaW.PrintLast Go.Proofs.YtmcdpgopjfpjeaaW.PrintMore
attribute [local go_sem] max2_int min2_int max_two min_two max_three min_three max_four min_four   -- for this text's walks alone
set_option linter.unusedVariables false
set_option linter.unusedSimpArgs false

/-! ### noonmarklaw29_alive: function 9 -/
attribute [local go_sem] max2_int min2_int max_two min_two max_three min_three max_four min_four
/-- a disk at block g: its bytes l are in the row v (base: the blocks that are the call's own), s of them synced -/
structure Dk (w : World) (base g : Nat) (v : Value) (l : List Int) (s : Int) : Prop where
  blk : w.heap[g]? = some (.cells #[v, .int .i64 s] 78 (0, 0))
  row : Kd.R (Kd.int .u8) 5 w base (fun k => some k = v.ownBlock) v l
  len : l.length ≤ 4000000
  base_le : base ≤ g
theorem Dk.step {w w' : World} {base g : Nat} {v : Value} {l : List Int} {s : Int} (h : Dk w base g v l s) (hg : w'.heap[g]? = w.heap[g]?) (hv : ∀ k, v.ownBlock = some k → w'.heap[k]? = w.heap[k]?) : Dk w' base g v l s :=
  ⟨hg.trans h.blk, Kd.R_step h.row (fun k hk _ => hv k hk.symm), h.len, h.base_le⟩
theorem Dk.lt {w : World} {base g : Nat} {v : Value} {l : List Int} {s : Int} (h : Dk w base g v l s) : g < w.heap.size := blk_lt h.blk
theorem Dk.row_lt {w : World} {base g : Nat} {v : Value} {l : List Int} {s : Int} (h : Dk w base g v l s) : ∀ k, v.ownBlock = some k → k < w.heap.size := Kd.R_lt h.row
theorem Dk.row_ne {w : World} {base g : Nat} {v : Value} {l : List Int} {s : Int} (h : Dk w base g v l s) : some g ≠ v.ownBlock := Kd.R_ne h.row h.blk (by decide)
theorem Dk.below {w w' : World} {base g : Nat} {v : Value} {l : List Int} {s : Int} (h : Dk w base g v l s) (hb : Below w.heap.size w w') : Dk w' base g v l s :=
  h.step (hb.block g h.lt) (fun k hk => hb.block k (h.row_lt k hk))
theorem Dk.lower {w : World} {base base' g : Nat} {v : Value} {l : List Int} {s : Int} (h : Dk w base g v l s) (hb : base' ≤ base) : Dk w base' g v l s := ⟨h.blk, Kd.R_lower h.row hb, h.len, Nat.le_trans hb h.base_le⟩
theorem Dk.drewN {w : World} {base g : Nat} {v : Value} {l : List Int} {s : Int} (h : Dk w base g v l s) (m : Nat) : Dk (w.drewN m) base g v l s := h.step rfl (fun _ _ => rfl)
theorem Dk.alloc {w : World} {base g : Nat} {v : Value} {l : List Int} {s : Int} (h : Dk w base g v l s) (o : Obj) : Dk (w.alloc o) base g v l s := h.below (below_alloc (Below.refl _ _) o)
theorem Dk.slice {w : World} {base g : Nat} {v : Value} {l : List Int} {s : Int} (h : Dk w base g v l s) : ∃ A c, v = .slice A l.length c ∧ l.length ≤ c ∧ Kd.C (Kd.int .u8) w A l.length l := Kd.R_reads h.row
/-- what a row that is no disk's keeps across a call that turns a disk -/
theorem R_but {α : Type} {d : Kd α} {e : Nat} {w w' : World} {base g : Nat} {ok : Nat → Prop} {row : Option Nat} {v : Value} {xs : List α} (h : d.R e w base ok v xs) (hk : KeepBut w w' g row) (h1 : ∀ k, ok k → k ≠ g) (h2 : ∀ k, ok k → some k ≠ row) : d.R e w' base ok v xs :=
  Kd.R_step h (fun k ho hlt => hk.2 k hlt (h1 k ho) (h2 k ho))
theorem Dk.but {w w' : World} {base g g' : Nat} {row : Option Nat} {v : Value} {l : List Int} {s : Int} (h : Dk w base g v l s) (hk : KeepBut w w' g' row) (h1 : g ≠ g') (h2 : some g ≠ row) (h3 : ∀ k, v.ownBlock = some k → k ≠ g' ∧ some k ≠ row) : Dk w' base g v l s :=
  h.step (hk.2 g h.lt h1 h2) (fun k hk' => hk.2 k (h.row_lt k hk') (h3 k hk').1 (h3 k hk').2)

theorem newDisk_any (w : World) : Calls Try.prog 23 #[] w fun e w' => e = .returned (.pointer (some ⟨w.heap.size, 0, none⟩)) ∧ w' = w.alloc (.cells #[.slice none 0 0, .int .i64 0] 78) := by
  go_enter Try.func23, Try.ntmps23
  go_wp2
  go_ret
  exact ⟨rfl, rfl⟩
theorem newDisk_dk (w : World) : Dk (w.alloc (.cells #[.slice none 0 0, .int .i64 0] 78)) w.heap.size w.heap.size (.slice none 0 0) [] 0 := ⟨blk_new w _, Kd.R_nil _ _ _ _ _, by simp, Nat.le_refl _⟩

set_option maxRecDepth 100000 in
theorem append_nil (w : World) (A : Option Addr) (n c : Nat) : Calls Try.prog 24 #[.pointer none, .slice A n c] w fun e w' => e = .returned (.int .i64 20) ∧ w = w' := by
  go_enter Try.func24, Try.ntmps24
  go_wp2
  go_ret
  exact ⟨rfl, rfl⟩
set_option maxRecDepth 100000 in
set_option maxHeartbeats 1000000 in
theorem append_full (w : World) (base g : Nat) (v : Value) (l : List Int) (s : Int) (H : Dk w base g v l s) (A : Option Addr) (n c : Nat) (hn : n ≤ 1000000000) (hfull : 4000000 < l.length + n) :
    Calls Try.prog 24 #[.pointer (some ⟨g, 0, none⟩), .slice A n c] w fun e w' => e = .returned (.int .i64 17) ∧ w = w' := by
  obtain ⟨Av, cv, rfl, hcv, hC⟩ := H.slice
  have c0 : w.cell? ⟨g, 0, none⟩ = some (.slice Av l.length cv) := (blk_cell H.blk 0).trans rfl
  have hl := H.len
  have e1 : decide ((4000000 : Int) - (l.length : Int) < (n : Int)) = true := decide_eq_true (by omega)
  clear H hcv hC hfull
  go_enter Try.func24, Try.ntmps24
  go_wp2
  go_ret
  exact ⟨rfl, rfl⟩
def AppQ (w : World) (base g : Nat) (v : Value) (l xs : List Int) (s : Int) (w' : World) : Prop :=
  ∃ v', Dk w' base g v' (l ++ xs) s ∧ (v'.ownBlock = v.ownBlock ∨ ∃ b, v'.ownBlock = some b ∧ w.heap.size ≤ b) ∧ Below base w w' ∧ KeepBut w w' g v.ownBlock
set_option maxRecDepth 100000 in
set_option maxHeartbeats 2000000 in
theorem append_ok (w : World) (base g : Nat) (v : Value) (l xs : List Int) (s : Int) (H : Dk w base g v l s) (A : Option Addr) (c : Nat) (hx : Kd.C (Kd.int .u8) w A xs.length xs) (hroom : l.length + xs.length ≤ 4000000) :
    Calls Try.prog 24 #[.pointer (some ⟨g, 0, none⟩), .slice A xs.length c] w fun e w' => e = .returned (.int .i64 0) ∧ AppQ w base g v l xs s w' := by
  obtain ⟨Av, cv, rfl, hcv, hC⟩ := H.slice
  have HD := Aside0.mk H
  have HX := Aside0.mk hx
  have HRM := Aside0.mk hroom
  have c0 : w.cell? ⟨g, 0, none⟩ = some (.slice Av l.length cv) := (blk_cell H.blk 0).trans rfl
  have f0 := blk_frozen H.blk 0
  have hl := H.len
  have hxl : xs.length ≤ 4000000 := by omega
  have e1 : decide ((4000000 : Int) - (l.length : Int) < (xs.length : Int)) = false := decide_eq_false (by omega)
  clear H hcv hC hroom hx
  go_enter Try.func24, Try.ntmps24
  go_wp2_with (at_builtin; refine Kd.R_append_rows (Kd.int .u8) (w0 := w) base (by rfl) (.tmp 22) (.tmp 23) 22 5 (.int .u8 0) 1 rfl Try.underlying22 info5 rfl (by decide) (by decide) (.slice Av l.length cv) l xs A xs.length c (fun _ => True) (fun _ => False) (by rfl) (by rfl) (Kd.R_mono HD.out.row (fun _ _ => trivial)) HX.out (fun _ _ h => h) (fun _ h => h.elim) (fun _ _ => trivial) (Below.refl _ _) (Nat.le_trans HD.out.base_le (Nat.le_of_lt HD.out.lt)) (by have := HRM.out; omega) ?_; intro v2 w2 ho2 hb2 hg2 hat2; have HO2 := Aside0.mk (Kd.R_tight rfl ho2); have HB2 := Aside0.mk hb2; have HG2 := Aside0.mk hg2; have HAT2 := Aside0.mk hat2; have HK2 := Aside0.mk (blk_grown HD.out.blk hg2 HD.out.row_ne); obtain ⟨A2, c2, rfl⟩ := Kd.R_slice ho2; have k0 : w2.cell? ⟨g, 0, none⟩ = some (.slice Av l.length cv) := (blk_cell HK2.out 0).trans rfl; have kf := blk_frozen HK2.out 0; clear ho2 hb2 hg2 hat2)
  go_ret
  rw [show l.length + xs.length = (l ++ xs).length from List.length_append.symm]
  refine ⟨rfl, _, ⟨blk_put HK2.out 0 _ rfl, Kd.R_set HO2.out HK2.out (by decide) 0 _, by rw [List.length_append]; exact HRM.out, HD.out.base_le⟩, HAT2.out, HB2.out.setCell HD.out.base_le _, (KeepBut.of_grown HG2.out g).set_ 0 _⟩

set_option maxRecDepth 100000 in
theorem sync_nil (w : World) : Calls Try.prog 25 #[.pointer none] w fun e w' => e = .returned (.int .i64 20) ∧ w = w' := by
  go_enter Try.func25, Try.ntmps25
  go_wp2
  go_ret
  exact ⟨rfl, rfl⟩
set_option maxRecDepth 100000 in
theorem sync_ok (w : World) (base g : Nat) (v : Value) (l : List Int) (s : Int) (H : Dk w base g v l s) :
    Calls Try.prog 25 #[.pointer (some ⟨g, 0, none⟩)] w fun e w' => e = .returned (.int .i64 0) ∧ Dk w' base g v l (l.length : Int) ∧ Below base w w' ∧ KeepBut w w' g none := by
  obtain ⟨Av, cv, rfl, hcv, hC⟩ := H.slice
  have HD := Aside0.mk H
  have c0 : w.cell? ⟨g, 0, none⟩ = some (.slice Av l.length cv) := (blk_cell H.blk 0).trans rfl
  have c1 : w.cell? ⟨g, 1, none⟩ = some (.int .i64 s) := (blk_cell H.blk 1).trans rfl
  have f1 := blk_frozen H.blk 1
  clear H hcv hC
  go_enter Try.func25, Try.ntmps25
  go_wp2
  go_ret
  exact ⟨rfl, ⟨blk_put HD.out.blk 1 _ rfl, Kd.R_set HD.out.row HD.out.blk (by decide) 1 _, HD.out.len, HD.out.base_le⟩, (Below.refl _ _).setCell HD.out.base_le _, (KeepBut.refl _ _ _).set_ 1 _⟩
set_option maxRecDepth 100000 in
theorem bytes_nil (w : World) : Calls Try.prog 26 #[.pointer none] w fun e w' => e = .returned (.slice none 0 0) ∧ w = w' := by
  go_enter Try.func26, Try.ntmps26
  go_wp2
  go_ret
  exact ⟨rfl, rfl⟩
theorem clone_some (l : List Int) (h : l.length ≤ 4000000) : slices_Clone.f l = some l := by unfold slices_Clone.f; rw [if_pos (by omega)]
set_option maxRecDepth 100000 in
theorem bytes_ok (w : World) (base g : Nat) (v : Value) (l : List Int) (s : Int) (H : Dk w base g v l s) :
    Calls Try.prog 26 #[.pointer (some ⟨g, 0, none⟩)] w fun e w' => ∃ v0 : Value, e = .returned v0 ∧ Kd.R (Kd.int .u8) 5 w' w.heap.size (fun _ => True) v0 l ∧ Below w.heap.size w w' := by
  obtain ⟨Av, cv, rfl, hcv, hC⟩ := H.slice
  have HC := Aside0.mk hC
  have HV := Aside0.mk hcv
  have HF := Aside0.mk (clone_some l H.len)
  have c0 : w.cell? ⟨g, 0, none⟩ = some (.slice Av l.length cv) := (blk_cell H.blk 0).trans rfl
  clear H hcv hC
  go_enter Try.func26, Try.ntmps26
  go_wp2_with (go_at_call 36; (with_reducible refine (slices_Clone.calls _ _ l l _ HC.out HV.out HF.out).mono ?_); rintro e w1 ⟨v1, rfl, ho, hb⟩)
  go_ret
  exact ⟨v1, rfl, ho, hb⟩
set_option maxRecDepth 100000 in
theorem synced_nil (w : World) : Calls Try.prog 27 #[.pointer none] w fun e w' => e = .returned (.int .i64 0) ∧ w = w' := by
  go_enter Try.func27, Try.ntmps27
  go_wp2
  go_ret
  exact ⟨rfl, rfl⟩
set_option maxRecDepth 100000 in
theorem synced_ok (w : World) (base g : Nat) (v : Value) (l : List Int) (s : Int) (H : Dk w base g v l s) :
    Calls Try.prog 27 #[.pointer (some ⟨g, 0, none⟩)] w fun e w' => e = .returned (.int .i64 s) ∧ w = w' := by
  have c1 : w.cell? ⟨g, 1, none⟩ = some (.int .i64 s) := (blk_cell H.blk 1).trans rfl
  clear H
  go_enter Try.func27, Try.ntmps27
  go_wp2
  go_ret
  exact ⟨rfl, rfl⟩
/-- a disk that is new -/
def NewQ (w : World) (l : List Int) (s : Int) (e : Ending) (w' : World) : Prop := ∃ g v, e = .returned (.pointer (some ⟨g, 0, none⟩)) ∧ Dk w' w.heap.size g v l s ∧ Below w.heap.size w w'
set_option maxRecDepth 100000 in
theorem of_any (w : World) (A : Option Addr) (c : Nat) (l : List Int) (hr : Kd.C (Kd.int .u8) w A l.length l) (hc : l.length ≤ c) (hl : l.length ≤ 4000000) :
    Calls Try.prog 37 #[.slice A l.length c] w (NewQ w l l.length) := by
  have HC := Aside0.mk hr
  have HV := Aside0.mk hc
  have HF := Aside0.mk (clone_some l hl)
  have HL := Aside0.mk hl
  clear hr hc hl
  go_enter Try.func37, Try.ntmps37
  go_wp2_with (go_at_call 36; (with_reducible refine (slices_Clone.calls _ _ l l _ HC.out HV.out HF.out).mono ?_); rintro e w1 ⟨v1, rfl, ho, hb⟩; have HO := Aside0.mk (Kd.R_tight rfl ho); have HB := Aside0.mk hb; obtain ⟨A1, c1, rfl⟩ := Kd.R_slice ho; clear ho hb)
  go_ret
  exact ⟨w1.heap.size, _, rfl, ⟨blk_new w1 _, Kd.R_alloc HO.out _, HL.out, HB.out.size⟩, below_alloc HB.out _⟩
set_option maxRecDepth 100000 in
theorem crash_nil (w : World) (k : Int) : Calls Try.prog 28 #[.pointer none, .int .i64 k] w fun e w' => e = .returned (.pointer none) ∧ w = w' := by
  go_enter Try.func28, Try.ntmps28
  go_wp2
  go_ret
  exact ⟨rfl, rfl⟩
theorem below_un {w w' : World} {n : Nat} (h : Below (w.drewN n).heap.size (w.drewN n) w') : Below w.heap.size w w' := ⟨h.os, h.tape, h.output, h.size, h.block⟩
theorem newQ_un {w : World} {n : Nat} {l : List Int} {s : Int} {e : Ending} {w' : World} (h : NewQ (w.drewN n) l s e w') : NewQ w l s e w' := by
  obtain ⟨g, v, he, hd, hb⟩ := h
  exact ⟨g, v, he, hd, below_un hb⟩
def keepJ (keep : Int) (n : Nat) (s : Int) : Int := if (n : Int) - s < (if keep < 0 then 0 else keep) then (n : Int) - s else (if keep < 0 then 0 else keep)
theorem keepJ_range (keep : Int) (n : Nat) (s : Int) (h0 : 0 ≤ s) (h1 : s ≤ n) : 0 ≤ keepJ keep n s ∧ keepJ keep n s ≤ (n : Int) - s := by
  unfold keepJ
  split <;> split <;> omega
set_option maxRecDepth 100000 in
set_option maxHeartbeats 2000000 in
theorem crash_ok (w : World) (base g : Nat) (v : Value) (l : List Int) (s keep : Int) (H : Dk w base g v l s) (h0 : 0 ≤ s) (h1 : s ≤ l.length) :
    Calls Try.prog 28 #[.pointer (some ⟨g, 0, none⟩), .int .i64 keep] w (NewQ w (l.take (s + keepJ keep l.length s).toNat) (s + keepJ keep l.length s)) := by
  obtain ⟨Av, cv, rfl, hcv, hC⟩ := H.slice
  have HD := Aside0.mk H
  have hl := H.len
  obtain ⟨kk, hkk⟩ : ∃ kk, kk = keepJ keep l.length s := ⟨_, rfl⟩
  have hkr := keepJ_range keep l.length s h0 h1
  rw [← hkk] at hkr ⊢
  obtain ⟨k1, hk1⟩ : ∃ k1, k1 = (if keep < 0 then 0 else keep) := ⟨_, rfl⟩
  have e1 : (if keep < 0 then (0 : Int) else keep) = k1 := hk1.symm
  have e2 : (if (l.length : Int) - s < k1 then (l.length : Int) - s else k1) = kk := by rw [hkk]; unfold keepJ; rw [← hk1]
  obtain ⟨y, hy⟩ : ∃ y, y = l.take (s + kk).toNat := ⟨_, rfl⟩
  have hyl : y.length = (s + kk).toNat := by rw [hy, List.length_take]; omega
  have hyl2 : (y.length : Int) = s + kk := by omega
  obtain ⟨i0, hi0, _, hsz, _⟩ := info_parts info5
  obtain ⟨hcut, hA, hcc⟩ := print_take_of (P := Try.prog) (Value.int .u8) 0 22 5 .i64 Try.underlying22 hi0 hsz Av cv l (s + kk) (by omega) (by omega) hcv
  rw [← hy] at hcut hA hcc ⊢
  have HY : Aside0 (∀ W : World, Kd.C (Kd.int .u8) W Av l.length l → Kd.C (Kd.int .u8) W Av y.length y) := ⟨fun W hW => Kd.C_of_reads (h1 := fun _ => rfl) (hA W (Kd.reads_of_C hW))⟩
  have HCC := Aside0.mk hcc
  have HC := Aside0.mk hC
  have HYL := Aside0.mk hyl2
  have hy4 : y.length ≤ 4000000 := by omega
  have HY4 := Aside0.mk hy4
  have c0 : w.cell? ⟨g, 0, none⟩ = some (.slice Av l.length cv) := (blk_cell H.blk 0).trans rfl
  have c1 : w.cell? ⟨g, 1, none⟩ = some (.int .i64 s) := (blk_cell H.blk 1).trans rfl
  have w1 : IntKind.i64.wrap ((l.length : Int) - s) = (l.length : Int) - s := IntWalk.i64_in _ (by omega)
  have w2 : IntKind.i64.wrap (s + kk) = s + kk := IntWalk.i64_in _ (by omega)
  have hp0 : 0 ≤ s + kk := by omega
  have hp1 : s + kk ≤ (l.length : Int) := by omega
  clear H hC hcv hkk hk1 hy hyl hyl2 hA hcc hi0 hsz hkr
  go_enter Try.func28, Try.ntmps28
  go_wp2_with fail
  go_quiet (fail)
  go_wp2_with fail
  have K0 : Aside0 (∀ m, (w.drewN m).cell? ⟨g, 0, none⟩ = some (.slice Av l.length cv) ∧ (w.drewN m).cell? ⟨g, 1, none⟩ = some (.int .i64 s)) := ⟨fun m => ⟨c0, c1⟩⟩
  have CA : Aside0 (∀ m, Kd.C (Kd.int .u8) (w.drewN m) Av y.length y) := ⟨fun m => Kd.C_drewN (HY.out _ HC.out) m⟩
  go_region_held3 (fun w' => w'.cell? ⟨g, 0, none⟩ = some (.slice Av l.length cv) ∧ w'.cell? ⟨g, 1, none⟩ = some (.int .i64 s))
    (first | exact ⟨c0, c1⟩ | (refine Aside0.out ?_; assumption))
    (first
      | (go_at_call 37; (with_reducible refine (of_any _ Av cv y (CA.out _) HCC.out HY4.out).mono ?_); rintro e w9 hq; obtain ⟨g9, v9, rfl, hd9, hb9⟩ := newQ_un (n := nq + 1) hq; clear hq; have HD9 := Aside0.mk hd9; have HB9 := Aside0.mk hb9; have K2 : Aside0 (w9.cell? ⟨g, 0, none⟩ = some (.slice Av l.length cv) ∧ w9.cell? ⟨g, 1, none⟩ = some (.int .i64 s)) := ⟨⟨pw_cell_below hb9 c0, pw_cell_below hb9 c1⟩⟩; clear hd9 hb9))
  go_wp2
  go_ret
  exact ⟨g9, v9, rfl, by rw [← HYL.out]; exact HD9.out, HB9.out⟩
set_option maxRecDepth 100000 in
theorem open_nil (w : World) : Calls Try.prog 30 #[.pointer none] w fun e w' => e = .returned (.tuple #[.pointer none, .slice none 0 0, .int .i64 20]) ∧ w = w' := by
  go_enter Try.func30, Try.ntmps30
  go_wp2
  go_ret3
  exact ⟨rfl, rfl⟩
/-- what Open hands back -/
def OpenQ (w : World) (rs : List S29) (l : List Int) (e : Ending) (w' : World) : Prop := ∃ g v v0, e = .returned (.tuple #[.pointer (some ⟨g, 0, none⟩), v0, .int .i64 0]) ∧ Dk w' w.heap.size g v l l.length ∧ Kd.R k29 29 w' w.heap.size (fun _ => True) v0 rs ∧ Below w.heap.size w w'
set_option maxRecDepth 100000 in
set_option maxHeartbeats 2000000 in
theorem open_ok (w : World) (base g : Nat) (v : Value) (l : List Int) (s : Int) (H : Dk w base g v l s) (rs : List S29) (good : Nat) (hg : good ≤ l.length) (hrd : journal_Read.f l = some (rs, (good : Int))) :
    Calls Try.prog 30 #[.pointer (some ⟨g, 0, none⟩)] w (OpenQ w rs (l.take good)) := by
  obtain ⟨Av, cv, rfl, hcv, hC⟩ := H.slice
  have HD := Aside0.mk H
  have hl := H.len
  have HRD := Aside0.mk hrd
  obtain ⟨y, hy⟩ : ∃ y, y = l.take good := ⟨_, rfl⟩
  have hyl : y.length = good := by rw [hy, List.length_take]; omega
  obtain ⟨i0, hi0, _, hsz, _⟩ := info_parts info5
  obtain ⟨hcut, hA, hcc⟩ := print_take_of (P := Try.prog) (Value.int .u8) 0 22 5 .i64 Try.underlying22 hi0 hsz Av cv l (good : Int) (by omega) (by omega) hcv
  rw [Int.toNat_natCast, ← hy] at hcut hA hcc
  rw [← hy]
  have HY : Aside0 (∀ W : World, Kd.C (Kd.int .u8) W Av l.length l → Kd.C (Kd.int .u8) W Av y.length y) := ⟨fun W hW => Kd.C_of_reads (h1 := fun _ => rfl) (hA W (Kd.reads_of_C hW))⟩
  have HCC := Aside0.mk hcc
  have HC := Aside0.mk hC
  have HV := Aside0.mk hcv
  have hy4 : y.length ≤ 4000000 := by omega
  have HY4 := Aside0.mk hy4
  have c0 : w.cell? ⟨g, 0, none⟩ = some (.slice Av l.length cv) := (blk_cell H.blk 0).trans rfl
  have hp0 : 0 ≤ (good : Int) := by omega
  have hp1 : (good : Int) ≤ (l.length : Int) := by omega
  have hp2 : good ≤ l.length := hg
  clear H hC hcv hy hyl hA hcc hi0 hsz hrd hg
  go_enter Try.func30, Try.ntmps30
  go_wp2_with (first
    | (go_at_call 13; (with_reducible refine (journal_Read.calls Av cv l rs (good : Int) _ HC.out HV.out HRD.out).mono ?_); rintro e w1 ⟨v0, rfl, ho, hb⟩; have k0 := pw_cell_below hb c0; have HB1 := Aside0.mk hb; have HO1 := Aside0.mk ho; clear ho hb)
    | (go_at_call 37; (with_reducible refine (of_any _ Av cv y (Kd.C_below (HY.out _ HC.out) HB1.out) HCC.out HY4.out).mono ?_); rintro e w9 ⟨g9, v9, rfl, hd9, hb9⟩; have HD9 := Aside0.mk hd9; have HB9 := Aside0.mk hb9; clear hd9 hb9))
  go_ret3
  exact ⟨g9, v9, v0, rfl, HD9.out.lower HB1.out.size, Kd.R_below HO1.out HB9.out, below_then HB1.out HB1.out.size HB9.out⟩
set_option maxRecDepth 100000 in
theorem add_nil (w : World) (k : Nat) (a : Int) (A : Option Addr) (c : Nat) (x : List Int) (hr : Kd.C (Kd.int .u8) w A x.length x) (hc : x.length ≤ c) (r1 : List Int) (r2 : Int) (h : journal_Frame.f k a x = some (r1, r2)) :
    Calls Try.prog 29 #[.pointer none, .agg #[.int .i64 a, .slice A x.length c]] w fun e w' => e = .returned (.int .i64 20) ∧ Below w.heap.size w w' := by
  have HR := Aside0.mk hr
  have HC := Aside0.mk hc
  have HF := Aside0.mk h
  clear hr hc h
  go_enter Try.func29, Try.ntmps29
  go_wp2_with (go_at_call 10; (with_reducible refine (journal_Frame.calls k a A c x r1 r2 _ (Kd.C_alloc HR.out _) HC.out HF.out).mono ?_); rintro e w1 ⟨v0, rfl, ho, hb⟩; have HB1 := Aside0.mk hb; clear ho hb)
  go_ret
  exact ⟨rfl, below_then (below_alloc (Below.refl _ _) _) (by simp) HB1.out⟩
set_option maxRecDepth 100000 in
theorem add_bad (w : World) (p : Addr) (k : Nat) (a : Int) (A : Option Addr) (c : Nat) (x : List Int) (hr : Kd.C (Kd.int .u8) w A x.length x) (hc : x.length ≤ c) (r1 : List Int) (r2 : Int) (h : journal_Frame.f k a x = some (r1, r2)) (h2 : r2 ≠ 0) :
    Calls Try.prog 29 #[.pointer (some p), .agg #[.int .i64 a, .slice A x.length c]] w fun e w' => e = .returned (.int .i64 r2) ∧ Below w.heap.size w w' := by
  have HR := Aside0.mk hr
  have HC := Aside0.mk hc
  have HF := Aside0.mk h
  have d0 : (r2 == 0) = false := beq_eq_false_iff_ne.mpr h2
  have d1 : decide (r2 = 0) = false := decide_eq_false h2
  have d2 : (r2 != 0) = true := by simp [bne, d0]
  clear hr hc h h2
  go_enter Try.func29, Try.ntmps29
  go_wp2_with (go_at_call 10; (with_reducible refine (journal_Frame.calls k a A c x r1 r2 _ (Kd.C_alloc HR.out _) HC.out HF.out).mono ?_); rintro e w1 ⟨v0, rfl, ho, hb⟩; have HB1 := Aside0.mk hb; clear ho hb)
  go_ret
  exact ⟨rfl, below_then (below_alloc (Below.refl _ _) _) (by simp) HB1.out⟩
set_option maxRecDepth 100000 in
set_option maxHeartbeats 2000000 in
theorem add_ok (w : World) (base g : Nat) (v : Value) (l : List Int) (s : Int) (H : Dk w base g v l s) (k : Nat) (a : Int) (A : Option Addr) (c : Nat) (x : List Int) (hr : Kd.C (Kd.int .u8) w A x.length x) (hc : x.length ≤ c) (f : List Int) (h : journal_Frame.f k a x = some (f, 0)) (hroom : l.length + f.length ≤ 4000000) :
    Calls Try.prog 29 #[.pointer (some ⟨g, 0, none⟩), .agg #[.int .i64 a, .slice A x.length c]] w fun e w' => e = .returned (.int .i64 0) ∧ (∃ v', Dk w' base g v' (l ++ f) ((l ++ f).length : Int)) ∧ Below base w w' := by
  have HR := Aside0.mk hr
  have HC := Aside0.mk hc
  have HF := Aside0.mk h
  have HD := Aside0.mk H
  have HRM := Aside0.mk hroom
  clear hr hc h hroom H
  go_enter Try.func29, Try.ntmps29
  go_wp2_with (first
    | (go_at_call 10; (with_reducible refine (journal_Frame.calls k a A c x f 0 _ (Kd.C_alloc HR.out _) HC.out HF.out).mono ?_); rintro e w1 ⟨v0, rfl, ho, hb⟩; have HB1 := Aside0.mk (below_then (below_alloc (Below.refl w.heap.size w) (.cells #[.int .i64 a, .slice A x.length c] 29)) (by simp) hb); have HD1 := Aside0.mk ((HD.out.alloc (.cells #[.int .i64 a, .slice A x.length c] 29)).below hb); obtain ⟨A1, c1, rfl, hc1, hC1⟩ := Kd.R_reads ho; have HC1 := Aside0.mk hC1; clear ho hb hC1 hc1)
    | (go_at_call 24; (with_reducible refine (append_ok _ base g v l f s HD1.out A1 c1 HC1.out HRM.out).mono ?_); rintro e w2 ⟨rfl, v2, hd2, _, hb2, _⟩; have HD2 := Aside0.mk hd2; have HB2 := Aside0.mk hb2; clear hd2 hb2)
    | (go_at_call 25; (with_reducible refine (sync_ok _ base g _ _ _ HD2.out).mono ?_); rintro e w3 ⟨rfl, hd3, hb3, _⟩; have HD3 := Aside0.mk hd3; have HB3 := Aside0.mk hb3; clear hd3 hb3))
  go_ret
  exact ⟨rfl, ⟨_, HD3.out⟩, ((HB1.out.mono (Nat.le_trans HD.out.base_le (Nat.le_of_lt HD.out.lt))).trans HB2.out).trans HB3.out⟩
def frameX : List Int := [165, 1, 1, 0, 0, 0, 120, 172, 32, 29, 32]
def digitsX : List Int := [49, 50, 51, 52, 53, 54, 55, 56, 57]
def recsX : List S29 := [⟨1, [120]⟩]
theorem frameX_ev : journal_Frame.f 100 1 [120] = some (frameX, 0) := by decide +kernel
theorem sumX_ev : journal_Sum.f 100 digitsX = some 3421780262 := by decide +kernel
theorem readX_ev : journal_Read.f frameX = some (recsX, 11) := by kernel_rfl
theorem add0' (ad : Addr) : ad.add ((0 : Int).toNat * 2) = ad := by simp [Addr.add]
theorem C_lit (w : World) (xs : List Int) (t : Nat) (fr : Nat × Nat) (n : Nat) (hn : n = xs.length) (hl : xs.length ≤ 1000) : Kd.C (Kd.int .u8) (w.alloc (.cells (xs.map (Value.int .u8)).toArray t fr)) (some ⟨w.heap.size, 0, none⟩) n xs := by
  subst hn
  refine Kd.C_of_reads (d := 0) (h1 := fun _ => rfl) ⟨rfl, by omega, fun _ => ⟨_, rfl, fun j hj => ?_⟩⟩
  rw [add_plain, cell_of_row _ _ _ _ _ fr (blk_new w _)]
  simp [List.getD_eq_getElem?_getD, hj]
set_option maxRecDepth 100000 in
set_option maxHeartbeats 4000000 in
theorem alive_any (w : World) : Calls Try.prog 9 #[] w fun e w' => e = .returned (.bool true) ∧ Below w.heap.size w w' := by
  have HD1 := Aside0.mk (newDisk_dk w)
  have HA : Aside0 (∀ (W : World) (A : Option Addr) (v : Value), Dk W w.heap.size w.heap.size v [] 0 → Kd.C (Kd.int .u8) W A 1 [120] →
      Calls Try.prog 29 #[.pointer (some ⟨w.heap.size, 0, none⟩), .agg #[.int .i64 1, .slice A 1 1]] W fun e w' => e = .returned (.int .i64 0) ∧ (∃ v', Dk w' w.heap.size w.heap.size v' frameX 11) ∧ Below w.heap.size W w') :=
    ⟨fun W A v h hc => add_ok W w.heap.size w.heap.size v [] 0 h 100 1 A 1 [120] hc (Nat.le_refl _) frameX frameX_ev (by decide)⟩
  have HO : Aside0 (∀ (W : World) (v : Value), Dk W w.heap.size w.heap.size v frameX 11 → Calls Try.prog 30 #[.pointer (some ⟨w.heap.size, 0, none⟩)] W (OpenQ W recsX frameX)) :=
    ⟨fun W v h => open_ok W w.heap.size w.heap.size v frameX 11 h recsX 11 (by decide) readX_ev⟩
  have HS : Aside0 (∀ (W : World) (A : Option Addr), Kd.C (Kd.int .u8) W A 9 digitsX → Calls Try.prog 18 #[.slice A 9 9] W fun e w' => e = .returned (.int .u32 3421780262) ∧ Drawn0 W w') :=
    ⟨fun W A h => journal_Sum.calls 100 A 9 digitsX 3421780262 W h (Nat.le_refl _) sumX_ev⟩
  have CL1 : Aside0 (Kd.C (Kd.int .u8) ((w.alloc (.cells #[.slice none 0 0, .int .i64 0] 78)).alloc (.cells #[.int .u8 120] 5 (1, 2))) (some ⟨w.heap.size + 1, 0, none⟩) 1 [120]) := ⟨by
    have := C_lit (w.alloc (.cells #[.slice none 0 0, .int .i64 0] 78)) [120] 5 (1, 2) 1 rfl (by decide)
    rw [World.size_alloc] at this
    exact this⟩
  have CL2 : Aside0 (∀ W : World, Kd.C (Kd.int .u8) (W.alloc (.cells #[.int .u8 49, .int .u8 50, .int .u8 51, .int .u8 52, .int .u8 53, .int .u8 54, .int .u8 55, .int .u8 56, .int .u8 57] 5 (9, 10))) (some ⟨W.heap.size, 0, none⟩) 9 digitsX) := ⟨fun W => C_lit W digitsX 5 (9, 10) 9 rfl (by decide)⟩
  have kc := fun (w : World) (C : Array Value) (n c : Nat) => Lib.run_convert_bytes_const (P := Try.prog) w 22 5 C n c Try.underlying22 Try.underlying5
  have kc1 : (convert 22 22 (.slice (some ⟨w.heap.size + 1, 0, none⟩) 1 1)).run Try.prog ((w.alloc (.cells #[.slice none 0 0, .int .i64 0] 78)).alloc (.cells #[.int .u8 120] 5)) = .ok (.slice (some ⟨w.heap.size + 1, 0, none⟩) 1 1) ((w.alloc (.cells #[.slice none 0 0, .int .i64 0] 78)).alloc (.cells #[.int .u8 120] 5 (1, 2))) := by
    have := kc (w.alloc (.cells #[.slice none 0 0, .int .i64 0] 78)) #[.int .u8 120] 1 1
    rw [World.size_alloc] at this
    exact this
  go_enter Try.func9, Try.ntmps9
  go_wp2_with (first
    | (go_at_call 23; (with_reducible refine (newDisk_any _).mono ?_); rintro e w1 ⟨rfl, rfl⟩)
    | (go_at_call 29; (with_reducible refine (HA.out _ _ _ (HD1.out.alloc (.cells #[.int .u8 120] 5 (1, 2))) CL1.out).mono ?_); rintro e w2 ⟨rfl, ⟨v2, hd2⟩, hb2⟩; have HD2 := Aside0.mk hd2; have HB2 := Aside0.mk hb2; clear hd2 hb2)
    | (go_at_call 30; (with_reducible refine (HO.out _ _ HD2.out).mono ?_); rintro e w3 ⟨g3, v3, v0, rfl, hd3, ho3, hb3⟩; have HB3 := Aside0.mk hb3; obtain ⟨A3, c3, hv0, hc3, hC3⟩ := Kd.R_reads ho3; replace hv0 : v0 = .slice A3 1 c3 := hv0; subst hv0; obtain ⟨ad, A1, c1, rfl, _, hq1, _, hq2⟩ := at_T29 hC3 0 (by omega) (by decide); rw [add0'] at hq1; have HQ1 := Aside0.mk hq1; have HQ2 := Aside0.mk hq2; clear hd3 ho3 hb3 hC3 hc3 hq1 hq2)
    | (go_at_call 18; (with_reducible refine (HS.out _ _ (CL2.out _)).mono ?_); rintro e w4 ⟨rfl, ⟨m4, rfl⟩⟩; have hq1 : (w3.alloc (.cells #[.int .u8 49, .int .u8 50, .int .u8 51, .int .u8 52, .int .u8 53, .int .u8 54, .int .u8 55, .int .u8 56, .int .u8 57] 5 (9, 10))).cell? ⟨ad.block, ad.off + 1, none⟩ = some (.slice A1 1 c1) := pw_cell_below (below_alloc (Below.refl _ _) _) HQ1.out; have hq2 : ∀ m, (convert 22 9 (.slice A1 1 c1)).run Try.prog ((w3.alloc (.cells #[.int .u8 49, .int .u8 50, .int .u8 51, .int .u8 52, .int .u8 53, .int .u8 54, .int .u8 55, .int .u8 56, .int .u8 57] 5 (9, 10))).drewN m) = .ok (.string ⟨#[120]⟩) _ := fun m => Kd.C_string Try.underlying22 Try.underlying5 Try.underlying9 (Kd.C_drewN (Kd.C_alloc HQ2.out _) m)))
  go_ret
  exact ⟨rfl, pw_below_drewN (below_alloc (below_then ((below_alloc (below_alloc (Below.refl _ _) _) _).trans HB2.out) (by have := HB2.out.size; simp at this; omega) HB3.out) _) _⟩
def noonmarklaw29_alive.f : Option Bool := some true
theorem noonmarklaw29_alive.calls (r : Bool) (w : World) (h : noonmarklaw29_alive.f = some r) :
    Calls Try.prog 9 #[] w fun e w' => e = .returned (.bool r) ∧ Below w.heap.size w w' := by
  obtain rfl : true = r := Option.some.inj h
  exact alive_any w

/-! ### noonmarklaw29_Own: function 11 -/
def noonmarklaw29_Own.f (a0_0 : Int) (l0_1 : List Int) : Option (Int × List Int) := some (a0_0, l0_1)
set_option maxHeartbeats 8000000 in
set_option maxRecDepth 100000 in
theorem noonmarklaw29_Own.calls (a0_0 : Int) (P0_1_ : Nat → Prop) (A0_1 : Option Addr) (c0_1 : Nat) (l0_1 : List Int) (r1 : Int) (r2 : List Int) (w : World) (hs0_1 : Kd.V (Kd.int .u8) 5 w w.heap.size (fun k_ => P0_1_ k_) (.slice A0_1 l0_1.length c0_1) l0_1) (h : noonmarklaw29_Own.f a0_0 l0_1 = some (r1, r2)) :
    Calls Try.prog 11 #[.agg #[.int .i64 a0_0, .slice A0_1 l0_1.length c0_1]] w fun e w' => ∃ v1_ : Value, e = .returned (.agg #[.int .i64 r1, v1_]) ∧ Kd.V (Kd.int .u8) 5 w' w.heap.size (fun k_ => (P0_1_ k_ ∨ w.heap.size ≤ k_)) v1_ r2 ∧ Below w.heap.size w w' := by
  have hu24 := Try.underlying24
  have hu29 := Try.underlying29
  have HO0_1 := Aside0.mk (show Kd.V (Kd.int .u8) 5 w w.heap.size (fun k_ => (P0_1_ k_ ∨ w.heap.size ≤ k_)) (.slice A0_1 l0_1.length c0_1) l0_1 from Kd.V_mono hs0_1 (fun k_ hk => .inl hk))
  have HB := Aside0.mk (Below.refl w.heap.size w)
  have H : (some (a0_0, l0_1)) = some (r1, r2) := h
  clear h
  simp only [Option.some.injEq, Prod.mk.injEq] at H
  obtain ⟨rfl, rfl⟩ := H
  go_enter Try.func11, Try.ntmps11
  go_wp2_with (first | ((with_reducible refine gate_dst (N := 1) rfl ?_); refine box_event ?hg (N := 1) ?hd (cs := #[.int .i64 a0_0, .slice A0_1 l0_1.length c0_1]) (t := 24) ?hr ?_; (case hd => rfl); (case hg => rfl); (case hr => first | (go_simp; done) | (go_simp; rfl)); intro gb135 hg w2 hbox hb; have n0_ := Aside0.mk (Kd.V_below (Kd.V_elderB (by (with_reducible repeat (first | apply Kd.V_alloc | apply Kd.V_drewN | apply Kd.V_drew)); exact HO0_1.out) gb135 (Nat.le_of_eq hg.symm)) hb); have n1_ := Aside0.mk (below_step (by repeat (first | (with_reducible first | exact HB.out | apply below_alloc | apply pw_below_drewN | apply below_drew1) | exact HB.out)) hb); have n2_ := Aside0.mk (hbox); have n3_ := Aside0.mk ((by rw [hg]; exact (below_size (by repeat (first | (with_reducible first | exact HB.out | apply below_alloc | apply pw_below_drewN | apply below_drew1) | exact HB.out))) : w.heap.size ≤ gb135)); have n4_ := Aside0.mk ((by rw [hg]; exact (below_size (by repeat (first | (with_reducible first | exact HB.out | apply below_alloc | apply pw_below_drewN | apply below_drew1) | exact HB.out))) : w.heap.size ≤ gb135)); clear HO0_1; clear HB; have HO0_1 := n0_; have HB := n1_; have BK135 := n2_; have GW135 := n3_; have GE135 := n4_; clear n0_ n1_ n2_ n3_ n4_; clear hb hbox hg) | ((with_reducible refine gate_dst (N := 2) rfl ?_); refine box_event ?hg (N := 2) ?hd (cs := #[.int .i64 0, .slice none 0 0]) (t := 29) ?hr ?_; (case hd => rfl); (case hg => rfl); (case hr => first | (go_simp; done) | (go_simp; rfl)); intro gb136 hg w3 hbox hb; have n0_ := Aside0.mk (Kd.V_below (Kd.V_elderB (by (with_reducible repeat (first | apply Kd.V_alloc | apply Kd.V_drewN | apply Kd.V_drew)); exact HO0_1.out) gb136 (Nat.le_of_eq hg.symm)) hb); have n1_ := Aside0.mk (blk_below (g := gb135) (o := .cells #[.int .i64 a0_0, .slice A0_1 l0_1.length c0_1] 24 (0, 0)) (by (with_reducible repeat (first | refine blk_drewN ?_ _ | refine blk_drew ?_ | refine blk_alloc ?_ _)); exact BK135.out) hb); have n2_ := Aside0.mk (below_step (by repeat (first | (with_reducible first | exact HB.out | apply below_alloc | apply pw_below_drewN | apply below_drew1 | refine below_set ?_ GE135.out) | exact HB.out)) hb); have n3_ := Aside0.mk (hbox); have n4_ := Aside0.mk ((by rw [hg]; exact (below_size (by repeat (first | (with_reducible first | exact HB.out | apply below_alloc | apply pw_below_drewN | apply below_drew1 | refine below_set ?_ GE135.out) | exact HB.out))) : w.heap.size ≤ gb136)); have n5_ := Aside0.mk ((by rw [hg]; exact (below_size (by repeat (first | (with_reducible first | exact HB.out | apply below_alloc | apply pw_below_drewN | apply below_drew1 | refine below_set ?_ GE135.out) | exact HB.out))) : w.heap.size ≤ gb136)); have n6_ := Aside0.mk ((by rw [hg]; exact Nat.ne_of_lt (blk_lt (g := gb135) (o := .cells #[.int .i64 a0_0, .slice A0_1 l0_1.length c0_1] 24 (0, 0)) (by (with_reducible repeat (first | refine blk_drewN ?_ _ | refine blk_drew ?_ | refine blk_alloc ?_ _)); exact BK135.out)) : gb135 ≠ gb136)); have n7_ := Aside0.mk ((by rw [hg]; exact Nat.ne_of_gt (blk_lt (g := gb135) (o := .cells #[.int .i64 a0_0, .slice A0_1 l0_1.length c0_1] 24 (0, 0)) (by (with_reducible repeat (first | refine blk_drewN ?_ _ | refine blk_drew ?_ | refine blk_alloc ?_ _)); exact BK135.out)) : gb136 ≠ gb135)); clear HO0_1; clear BK135; clear HB; have HO0_1 := n0_; have BK135 := n1_; have HB := n2_; have BK136 := n3_; have GW136 := n4_; have GE136 := n5_; have NB135_136 := n6_; have NB136_135 := n7_; clear n0_ n1_ n2_ n3_ n4_ n5_ n6_ n7_; clear hb hbox hg; have hnb4 := NB135_136.out; have hnc4 := NB136_135.out; have hcz5_0 : w3.cell? ⟨gb135, 0, none⟩ = some (.int .i64 a0_0) := (blk_cell BK135.out 0).trans rfl; have hcz5_1 : w3.cell? ⟨gb135, 1, none⟩ = some (.slice A0_1 l0_1.length c0_1) := (blk_cell BK135.out 1).trans rfl; have hfz5_0 := blk_frozen BK135.out 0; have hfz5_1 := blk_frozen BK135.out 1; have hcz6_0 : w3.cell? ⟨gb136, 0, none⟩ = some (.int .i64 0) := (blk_cell BK136.out 0).trans rfl; have hcz6_1 : w3.cell? ⟨gb136, 1, none⟩ = some (.slice none 0 0) := (blk_cell BK136.out 1).trans rfl; have hfz6_0 := blk_frozen BK136.out 0; have hfz6_1 := blk_frozen BK136.out 1))
  refine bodyPost_ret (results_cell_row rfl _ _ gb136 29 #[.int .i64 a0_0, .slice A0_1 l0_1.length c0_1] (0, 0) _ rfl (by (with_reducible repeat (first | refine blk_drewN ?_ _ | refine blk_drew ?_ | refine blk_alloc ?_ _)); refine blk_put (cs := #[.int .i64 a0_0, .slice none 0 0]) ?_ 1 _ rfl; (with_reducible repeat (first | refine blk_drewN ?_ _ | refine blk_drew ?_ | refine blk_alloc ?_ _)); refine blk_put (cs := #[.int .i64 0, .slice none 0 0]) ?_ 0 _ rfl; (with_reducible repeat (first | refine blk_drewN ?_ _ | refine blk_drew ?_ | refine blk_alloc ?_ _)); exact BK136.out) Try.underlying29 rfl (by kernel_rfl)) rfl ?_
  exact ⟨_, by first | rfl | (simp [errW_none, errW_some] <;> rfl) | (simp [*, errW_none, errW_some] <;> rfl), by (with_reducible repeat (first | apply Kd.V_alloc | apply Kd.V_drewN | apply Kd.V_drew)); exact Kd.V_mono (Kd.V_far (p := ⟨gb136, 1, none⟩) (Kd.V_far (p := ⟨gb136, 0, none⟩) (Kd.V_mono HO0_1.out (fun k_ hk => (⟨hk, hk.2⟩ : _ ∧ k_ ≠ gb136))) (fun _ hk => hk.2) (.int .i64 a0_0)) (fun _ hk => hk.2) (.slice A0_1 l0_1.length c0_1)) (fun _ hk => hk.1.1.1), by repeat (first | (with_reducible first | exact HB.out | apply below_alloc | apply pw_below_drewN | apply below_drew1 | refine below_set ?_ GE135.out | refine below_set ?_ GE136.out) | exact HB.out)⟩

/-! ### noonmarkref29_Sum: function 19 -/
mutual
def noonmarkref29_Sum.l0 : Nat → List Int → Int → Int → Option (Int)
  | 0, _, _, _ => none
  | k + 1, x0, x3, x4 => if x4 < (x0.length : Int) then (noonmarkref29_Sum.l1 k x0 x3 x4 0) else (some ((4294967295 - x3) % 4294967296))
def noonmarkref29_Sum.l1 : Nat → List Int → Int → Int → Int → Option (Int)
  | 0, _, _, _, _ => none
  | k + 1, x0, x3, x4, x5 => if x5 < 8 then (if 0 ≤ x4 then (if x4 < (x0.length : Int) then (if 0 ≤ x5 then (if (Go.bits .and .u32 (shr .u32 ((rd x0 x4) % 4294967296) x5) 1) = (Go.bits .and .u32 x3 1) then (noonmarkref29_Sum.l1 k x0 (x3 / 2) x4 (wrap64 (x5 + 1))) else (noonmarkref29_Sum.l1 k x0 (Go.bits .xor .u32 (x3 / 2) 3988292384) x4 (wrap64 (x5 + 1)))) else (none)) else (none)) else (none)) else (noonmarkref29_Sum.l0 k x0 x3 (wrap64 (x4 + 1)))
end
def noonmarkref29_Sum.f (k : Nat) (l0 : List Int) : Option (Int) := noonmarkref29_Sum.l0 k l0 4294967295 0
theorem noonmarkref29_Sum.mono_l : ∀ k, (∀ y0 y1 y2, LeO (noonmarkref29_Sum.l0 k y0 y1 y2) (noonmarkref29_Sum.l0 (k + 1) y0 y1 y2)) ∧ (∀ y0 y1 y2 y3, LeO (noonmarkref29_Sum.l1 k y0 y1 y2 y3) (noonmarkref29_Sum.l1 (k + 1) y0 y1 y2 y3))
  | 0 => ⟨fun _ _ _ r h => by simp [noonmarkref29_Sum.l0] at h, fun _ _ _ _ r h => by simp [noonmarkref29_Sum.l1] at h⟩
  | k + 1 => by
    obtain ⟨ih0, ih1⟩ := noonmarkref29_Sum.mono_l k
    refine ⟨?_, ?_⟩
    · intro y0 y1 y2
      unfold noonmarkref29_Sum.l0
      repeat' first
      | (with_reducible exact ih0 _ _ _)
      | (with_reducible exact ih1 _ _ _ _)
      | (with_reducible exact LeO.refl _)
      | (with_reducible exact LeO.none _)
      | (with_reducible refine LeO.ite ?_ ?_)
      | (with_reducible refine LeO.bind ?_ (fun _ => ?_))
      | exact ih0 _ _ _
      | exact ih1 _ _ _ _
      | exact LeO.none _
      | refine LeO.ite ?_ ?_
      | refine LeO.bind ?_ (fun _ => ?_)
    · intro y0 y1 y2 y3
      unfold noonmarkref29_Sum.l1
      repeat' first
      | (with_reducible exact ih0 _ _ _)
      | (with_reducible exact ih1 _ _ _ _)
      | (with_reducible exact LeO.refl _)
      | (with_reducible exact LeO.none _)
      | (with_reducible refine LeO.ite ?_ ?_)
      | (with_reducible refine LeO.bind ?_ (fun _ => ?_))
      | exact ih0 _ _ _
      | exact ih1 _ _ _ _
      | exact LeO.none _
      | refine LeO.ite ?_ ?_
      | refine LeO.bind ?_ (fun _ => ?_)
theorem noonmarkref29_Sum.mono : ∀ a0 k, LeO (noonmarkref29_Sum.f k a0) (noonmarkref29_Sum.f (k + 1) a0) := by
  intro a0 k
  obtain ⟨ih0, ih1⟩ := noonmarkref29_Sum.mono_l k
  unfold noonmarkref29_Sum.f
  repeat' first
      | (with_reducible exact ih0 _ _ _)
      | (with_reducible exact ih1 _ _ _ _)
      | (with_reducible exact LeO.refl _)
      | (with_reducible exact LeO.none _)
      | (with_reducible refine LeO.ite ?_ ?_)
      | (with_reducible refine LeO.bind ?_ (fun _ => ?_))
      | exact ih0 _ _ _
      | exact ih1 _ _ _ _
      | exact LeO.none _
      | refine LeO.ite ?_ ?_
      | refine LeO.bind ?_ (fun _ => ?_)
set_option maxHeartbeats 8000000 in
set_option maxRecDepth 100000 in
theorem noonmarkref29_Sum.calls (k : Nat) (A0 : Option Addr) (c0 : Nat) (l0 : List Int) (r : Int) (w : World) (hr0 : Kd.C (Kd.int .u8) w A0 l0.length l0) (hc0 : l0.length ≤ c0) (h : noonmarkref29_Sum.f k l0 = some r) :
    Calls Try.prog 19 #[.slice A0 l0.length c0] w fun e w' => e = .returned (.int .u32 r) ∧ Drawn0 w w' := by
  have HR0 := Aside0.mk hr0
  have HC0 := Aside0.mk hc0
  clear hr0 hc0
  have H : (noonmarkref29_Sum.l0 k l0 4294967295 0) = some r := h
  clear h
  have H' := Aside0.mk H
  clear H
  go_enter Try.func19, Try.ntmps19
  go_wp2
  go_loopg [3, 4] k (fun kq v3 v4 w' => ∃ (x3_1 : Int) (x4_1 : Int), v3 = .int .u32 x3_1 ∧ v4 = .int .i64 x4_1 ∧ Aside0 (noonmarkref29_Sum.l0 kq l0 x3_1 x4_1 = some r) ∧ Aside0 (kq ≤ k) ∧ Drawn0 w w')
  case atStart => exact ⟨(4294967295), (0), (by first | rfl | (simp; done) | (simp [*]; done)), (by first | rfl | (simp; done) | (simp [*]; done)), H', ⟨Nat.le_refl _⟩, by repeat (first | exact Drawn0.refl _ | apply Drawn0.step)⟩
  case round =>
    clear H'
    try clear c1
    obtain ⟨x3_1, x4_1, rfl, rfl, HA, HK1, ⟨m1, rfl⟩⟩ := hrel
    cases gk with
    | zero => exact absurd HA.out (by simp [noonmarkref29_Sum.l0])
    | succ k1 =>
      have H := HA.out
      clear HA
      simp only [noonmarkref29_Sum.l0] at H
      by_cases c2 : x4_1 < (l0.length : Int)
      · rw [if_pos c2] at H
        have c2b0 : decide (x4_1 < (l0.length : Int)) = true := decide_eq_true c2
        clear c2
        have H' := Aside0.mk H
        clear H
        go_wp2
        go_loopg [3, 5] k1 (fun kq v3 v5 w' => ∃ (x3_2 : Int) (x5_2 : Int), v3 = .int .u32 x3_2 ∧ v5 = .int .i64 x5_2 ∧ Aside0 (noonmarkref29_Sum.l1 kq l0 x3_2 x4_1 x5_2 = some r) ∧ Aside0 (kq ≤ k1) ∧ Drawn0 w w')
        case atStart => exact ⟨(x3_1), (0), (by first | rfl | (simp; done) | (simp [*]; done)), (by first | rfl | (simp; done) | (simp [*]; done)), H', ⟨Nat.le_refl _⟩, by repeat (first | exact Drawn0.refl _ | apply Drawn0.step)⟩
        case round =>
          clear H'
          try clear c1
          try clear c2
          try clear c2b0
          try clear p2
          obtain ⟨x3_2, x5_2, rfl, rfl, HA, HK2, ⟨m2, rfl⟩⟩ := hrel
          cases gk with
          | zero => exact absurd HA.out (by simp [noonmarkref29_Sum.l1])
          | succ k2 =>
            have H := HA.out
            clear HA
            simp only [noonmarkref29_Sum.l1] at H
            by_cases c3 : x5_2 < 8
            · rw [if_pos c3] at H
              have c3b0 : decide (x5_2 < 8) = true := decide_eq_true c3
              clear c3
              by_cases c4 : 0 ≤ x4_1
              · rw [if_pos c4] at H
                have c4b0 : decide (0 ≤ x4_1) = true := decide_eq_true c4
                clear c4
                by_cases c5 : x4_1 < (l0.length : Int)
                · rw [if_pos c5] at H
                  have c5b0 : decide (x4_1 < (l0.length : Int)) = true := decide_eq_true c5
                  clear c5
                  by_cases c6 : 0 ≤ x5_2
                  · rw [if_pos c6] at H
                    have c6b0 := eq_true c6
                    have c6b1 : decide (0 ≤ x5_2) = true := decide_eq_true c6
                    clear c6
                    obtain ⟨ji7, hji7⟩ : ∃ j_ : Int, (shr .u32 ((rd l0 x4_1) % 4294967296) x5_2) = j_ := ⟨_, rfl⟩
                    replace H : (if (Go.bits .and .u32 (ji7) 1) = (Go.bits .and .u32 x3_2 1) then (noonmarkref29_Sum.l1 k2 l0 (x3_2 / 2) x4_1 (wrap64 (x5_2 + 1))) else (noonmarkref29_Sum.l1 k2 l0 (Go.bits .xor .u32 (x3_2 / 2) 3988292384) x4_1 (wrap64 (x5_2 + 1)))) = some r := by first | (rw [hji7] at H; exact H) | (simp only [hji7] at H ⊢; exact H)
                    have hji7_ : (((rd l0 x4_1) % 4294967296) / 2 ^ min x5_2.toNat 32) = ji7 := hji7
                    have hji7z : x5_2 ≤ 32 → (((rd l0 x4_1) % 4294967296) / 2 ^ x5_2.toNat) = ji7 := shr_small hji7
                    by_cases c8 : (Go.bits .and .u32 (ji7) 1) = (Go.bits .and .u32 x3_2 1)
                    · rw [if_pos c8] at H
                      have c8b0 : ((Go.bits .and .u32 (ji7) 1) == (Go.bits .and .u32 x3_2 1)) = true := beq_iff_eq.mpr c8
                      have c8b1 : ((Go.bits .and .u32 (ji7) 1) != (Go.bits .and .u32 x3_2 1)) = false := bne_eq_false_iff_eq.mpr c8
                      clear c8
                      have H' := Aside0.mk H
                      clear H
                      have p137 : 0 ≤ (x4_1 : Int) := of_decide_eq_true (by first | (with_reducible assumption) | assumption)
                      have q137 : x4_1 < (l0.length : Int) := of_decide_eq_true (by first | (with_reducible assumption) | assumption)
                      obtain ⟨ad137, e137, hx137_0⟩ := Kd.at_int HR0.out x4_1 p137 q137
                      cases e137
                      replace p137 := eq_true p137
                      replace q137 := eq_true q137
                      go_wp2
                      go_roundg k2
                      case measure => have := HK1.out; have := HK2.out; omega
                      case rel => exact ⟨(x3_2 / 2), (wrap64 (x5_2 + 1)), (by first | rfl | (simp; done) | (simp [*]; done)), (by first | rfl | (simp; done) | (simp [*]; done)), H', ⟨by have := HK1.out; have := HK2.out; omega⟩, by repeat (first | exact Drawn0.refl _ | apply Drawn0.step)⟩
                    · rw [if_neg c8] at H
                      have c8b0 : ((Go.bits .and .u32 (ji7) 1) == (Go.bits .and .u32 x3_2 1)) = false := beq_eq_false_iff_ne.mpr c8
                      have c8b1 : ((Go.bits .and .u32 (ji7) 1) != (Go.bits .and .u32 x3_2 1)) = true := bne_iff_ne.mpr c8
                      have H' := Aside0.mk H
                      clear H
                      have p137 : 0 ≤ (x4_1 : Int) := of_decide_eq_true (by first | (with_reducible assumption) | assumption)
                      have q137 : x4_1 < (l0.length : Int) := of_decide_eq_true (by first | (with_reducible assumption) | assumption)
                      obtain ⟨ad137, e137, hx137_0⟩ := Kd.at_int HR0.out x4_1 p137 q137
                      cases e137
                      replace p137 := eq_true p137
                      replace q137 := eq_true q137
                      go_wp2
                      go_roundg k2
                      case measure => have := HK1.out; have := HK2.out; omega
                      case rel => exact ⟨(Go.bits .xor .u32 (x3_2 / 2) 3988292384), (wrap64 (x5_2 + 1)), (by first | rfl | (simp; done) | (simp [*]; done)), (by first | rfl | (simp; done) | (simp [*]; done)), H', ⟨by have := HK1.out; have := HK2.out; omega⟩, by repeat (first | exact Drawn0.refl _ | apply Drawn0.step)⟩
                  · rw [if_neg c6] at H
                    exact absurd H (by simp)
                · rw [if_neg c5] at H
                  exact absurd H (by simp)
              · rw [if_neg c4] at H
                exact absurd H (by simp)
            · rw [if_neg c3] at H
              have c3b0 : decide (x5_2 < 8) = false := decide_eq_false c3
              clear c3
              have H' := Aside0.mk H
              clear H
              go_wp2
              go_roundg k2
              case measure => have := HK1.out; have := HK2.out; omega
              case rel => exact ⟨(x3_2), (wrap64 (x4_1 + 1)), (by first | rfl | (simp; done) | (simp [*]; done)), (by first | rfl | (simp; done) | (simp [*]; done)), H', ⟨by have := HK1.out; have := HK2.out; omega⟩, by repeat (first | exact Drawn0.refl _ | apply Drawn0.step)⟩
      · rw [if_neg c2] at H
        have c2b0 : decide (x4_1 < (l0.length : Int)) = false := decide_eq_false c2
        clear c2
        obtain rfl := Option.some.inj H
        go_wp2
        go_ret
        exact ⟨by first | rfl | (simp; done) | (simp [*]; done), by repeat (first | exact Drawn0.refl _ | apply Drawn0.step)⟩

/-! ### noonmarkref29_four: function 32 -/
def noonmarkref29_four.f (a0 : Int) : Option (List Int) := some (([(Go.bits .and .u32 a0 255) % 256, (Go.bits .and .u32 (a0 / 256) 255) % 256, (Go.bits .and .u32 (a0 / 65536) 255) % 256, (a0 / 16777216) % 256] : List Int))
set_option maxHeartbeats 8000000 in
set_option maxRecDepth 100000 in
theorem noonmarkref29_four.calls (a0 : Int) (r : List Int) (w : World) (h : noonmarkref29_four.f a0 = some r) :
    Calls Try.prog 32 #[.int .u32 a0] w fun e w' => ∃ v0_ : Value, e = .returned (v0_) ∧ Kd.R (Kd.int .u8) 5 w' w.heap.size (fun _ => True) v0_ r ∧ Below w.heap.size w w' := by
  have HB := Aside0.mk (Below.refl w.heap.size w)
  have H : (some (([(Go.bits .and .u32 a0 255) % 256, (Go.bits .and .u32 (a0 / 256) 255) % 256, (Go.bits .and .u32 (a0 / 65536) 255) % 256, (a0 / 16777216) % 256] : List Int))) = some r := h
  clear h
  obtain ⟨y138, hy138⟩ : ∃ y_ : List Int, y_ = (([(Go.bits .and .u32 a0 255) % 256, (Go.bits .and .u32 (a0 / 256) 255) % 256, (Go.bits .and .u32 (a0 / 65536) 255) % 256, (a0 / 16777216) % 256] : List Int)) := ⟨_, rfl⟩
  replace H : (some y138) = some r := by first | (rw [hy138]; with_reducible exact H) | (have H2_ := (Option.bind_some _ _).symm.trans H; rw [hy138]; with_reducible exact H2_) | (have H2_ := (Option.bind_some _ _).symm.trans H; with_reducible exact H2_) | with_reducible exact H | (rw [hy138]; exact H) | exact H
  have Ny138 := Aside0.mk hy138
  clear hy138
  obtain rfl := Option.some.inj H
  go_enter Try.func32, Try.ntmps32
  go_wp2_with (first | ((with_reducible refine gate_dst (N := 17) rfl ?_); refine Kd.R_lit (Kd.int .u8) _ 5 ?hg (N := 17) ?hd (xs := ([(Go.bits .and .u32 a0 255) % 256, (Go.bits .and .u32 (a0 / 256) 255) % 256, (Go.bits .and .u32 (a0 / 65536) 255) % 256, (a0 / 16777216) % 256] : List Int)) (inner := [.int .u8 ((Go.bits .and .u32 a0 255) % 256), .int .u8 ((Go.bits .and .u32 (a0 / 256) 255) % 256), .int .u8 ((Go.bits .and .u32 (a0 / 65536) 255) % 256), .int .u8 ((a0 / 16777216) % 256)]) (ok := fun _ => True) (okp := fun _ => True) ?hr ?hp (fun _ hk => hk) trivial (Below.refl _ _) (Nat.le_refl _) (by simp) ?_; (case hd => rfl); (case hg => rfl); (case hr => first | (go_simp; done) | (go_simp; rfl)); (case hp => exact (Reps.one (show Kd.M (Kd.int .u8) _ _ _ ((Go.bits .and .u32 a0 255) % 256) [.int .u8 ((Go.bits .and .u32 a0 255) % 256)] from rfl) (Reps.one (show Kd.M (Kd.int .u8) _ _ _ ((Go.bits .and .u32 (a0 / 256) 255) % 256) [.int .u8 ((Go.bits .and .u32 (a0 / 256) 255) % 256)] from rfl) (Reps.one (show Kd.M (Kd.int .u8) _ _ _ ((Go.bits .and .u32 (a0 / 65536) 255) % 256) [.int .u8 ((Go.bits .and .u32 (a0 / 65536) 255) % 256)] from rfl) (Reps.one (show Kd.M (Kd.int .u8) _ _ _ ((a0 / 16777216) % 256) [.int .u8 ((a0 / 16777216) % 256)] from rfl) (Reps.none _ _)))))); intro v139 w2 ho3 hb hg_ hnew_; clear hg_ hnew_; (first | rw [← Ny138.out] at ho3 | (simp only [Int.reduceToNat] at ho3; rw [← Ny138.out] at ho3)); have n0_ := Aside0.mk (Kd.R_lower ho3 (below_size (by repeat (first | (with_reducible first | exact HB.out | apply below_alloc | apply pw_below_drewN | apply below_drew1) | exact HB.out)))); have n1_ := Aside0.mk (below_step (by repeat (first | (with_reducible first | exact HB.out | apply below_alloc | apply pw_below_drewN | apply below_drew1) | exact HB.out)) hb); clear HB; have HO140 := n0_; have HB := n1_; clear n0_ n1_; clear hb ho3))
  go_ret
  exact ⟨_, by first | rfl | (simp [errW_none, errW_some] <;> rfl) | (simp [*, errW_none, errW_some] <;> rfl), by (with_reducible repeat (first | apply Kd.R_alloc | apply Kd.R_drewN | apply Kd.R_drew)); exact HO140.out, by repeat (first | (with_reducible first | exact HB.out | apply below_alloc | apply pw_below_drewN | apply below_drew1) | exact HB.out)⟩

end Go.Proofs.Ytmcdpgopjfpjeaa.S
