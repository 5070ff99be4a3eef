/- Walks of laws of chapter 29. -/
import Derived.Test.YtmcdpgopjfpjeaaTurn
import Derived.Test.YtmcdpgopjfpjeaaS3
import Derived.Test.YtmcdpgopjfpjeaaArgs
import Derived.Test.YtmcdpgopjfpjeaaWalkCrash
import Derived.Deep.RegionHeld3
namespace Go.Proofs.Ytmcdpgopjfpjeaa.S
open Go.RowKit Go.Proofs.YtmcdpgopjfpjeaaW.PrintWords Go.Proofs.YtmcdpgopjfpjeaaW.PrintLast Go.Proofs.YtmcdpgopjfpjeaaW.PrintMore
attribute [local go_sem] max2_int min2_int max_two min_two max_three min_three max_four min_four
set_option linter.unusedVariables false
set_option linter.unusedSimpArgs false
theorem info3 : (Try.prog.info? 3).map (fun i => (i.zero, i.size, i.bytes)) = some (some (.int .i64 0), 1, 8) := by kernel_rfl
/-- the frames' bytes, and where they end -/
structure Be (w wr : World) (v7 v8 : Value) (bb ee : List Int) : Prop where
  b : Kd.R (Kd.int .u8) 5 wr w.heap.size (fun k => True ∧ some k ≠ v8.ownBlock) v7 bb
  e : Kd.R (Kd.int .i64) 3 wr w.heap.size (fun k => True ∧ some k ≠ v7.ownBlock) v8 ee
  below : Below w.heap.size w wr
theorem Be.next {w wr w' : World} {v7 v8 : Value} {bb ee : List Int} (h : Be w wr v7 v8 bb ee) (hb : Below wr.heap.size wr w') : Be w w' v7 v8 bb ee :=
  ⟨Kd.R_below h.b hb, Kd.R_below h.e hb, below_then h.below h.below.size hb⟩
theorem Be.drewN {w wr : World} {v7 v8 : Value} {bb ee : List Int} (h : Be w wr v7 v8 bb ee) (m : Nat) : Be w (wr.drewN m) v7 v8 bb ee := h.next (pw_below_drewN (Below.refl _ _) m)
theorem Be.fresh8 {w wr : World} {v7 v8 : Value} {bb ee : List Int} (h : Be w wr v7 v8 bb ee) : ∀ k, wr.heap.size ≤ k → True ∧ some k ≠ v8.ownBlock := fun k hk => ⟨trivial, fun e => by have := Kd.R_lt h.e k e.symm; omega⟩
theorem Be.fresh7 {w wr : World} {v7 v8 : Value} {bb ee : List Int} (h : Be w wr v7 v8 bb ee) : ∀ k, wr.heap.size ≤ k → True ∧ some k ≠ v7.ownBlock := fun k hk => ⟨trivial, fun e => by have := Kd.R_lt h.b k e.symm; omega⟩
theorem Be.start (w wr : World) (h : Below w.heap.size w wr) : Be w wr (.slice none 0 0) (.slice none 0 0) [] [] := ⟨Kd.R_nil _ _ _ _ _, Kd.R_nil _ _ _ _ _, h⟩
theorem R_zero {α : Type} {d : Kd α} {e base g : Nat} {W : World} {ok : Nat → Prop} (hb : W.heap[g]? = some (.cells #[] e (0, 0))) (hbase : base ≤ g) (hok : ok g) : Kd.R d e W base ok (.slice (some ⟨g, 0, none⟩) 0 0) [] :=
  ⟨fun k hk => by
      have : g = k := by simpa [Value.ownBlock] using hk
      rw [← this]; exact hok,
    [], ⟨by simp, .inr ⟨g, 0, #[], rfl, hbase, hb, Nat.le_refl _, by decide, by simp, by simp⟩⟩, Reps.none _ _⟩
set_option maxRecDepth 100000 in
set_option maxHeartbeats 8000000 in
theorem back_out (A0 : Option Addr) (c0 : Nat) (l0 : List S24) (at_ bit : Int) (w : World) (hc0 : l0.length ≤ c0) (hC0 : Kd.C k24 w A0 l0.length l0) (hb : lightB l0 12 = false) :
    Calls Try.prog 4 #[.slice A0 l0.length c0, .int .i64 at_, .int .i64 bit] w fun e w' => e = .returned (.bool true) ∧ Below w.heap.size w w' := by
  have hmax := Kd.C_max hC0
  have H0 := Aside0.mk hc0
  have HC0 := Aside0.mk hC0
  have HL := Aside0.mk (light_ev l0 (by omega) 12 (l0.length + 1) (by omega))
  rw [hb] at HL
  clear hc0 hC0 hmax hb
  go_enter Try.func4, Try.ntmps4
  go_wp2_with (first
    | (go_at_call 20; (with_reducible refine (noonmarklaw29_Light.calls (l0.length + 1) A0 c0 l0 12 false _ HC0.out H0.out HL.out).mono ?_); rintro e_ w1 ⟨rfl, ⟨m1, rfl⟩⟩)
    | (go_at_call 9; (with_reducible refine (alive_any _).mono ?_); rintro e_ w2 ⟨rfl, hb⟩))
  go_ret
  exact ⟨rfl, below_then (pw_below_drewN (Below.refl _ _) _) (by simp) hb⟩
theorem wraps_u8 (n : Int) (h₀ : 0 ≤ n) (h₁ : n < 2 ^ 8) : IntKind.u8.wrap n = n := by rw [IntKind.wrap_u8]; omega
theorem xor_nat8 (a b : Nat) (ha : a < 256) (hb : b < 256) : Go.bits .xor .u8 (a : Int) (b : Int) = ((a ^^^ b : Nat) : Int) := by
  have ha' : a % 2 ^ 8 = a := Nat.mod_eq_of_lt (by omega)
  have hb' : b % 2 ^ 8 = b := Nat.mod_eq_of_lt (by omega)
  have hx : a ^^^ b < 2 ^ 8 := Nat.xor_lt_two_pow (by omega) (by omega)
  show IntKind.u8.wrap (((BitVec.ofInt 8 (a : Int) ^^^ BitVec.ofInt 8 (b : Int)).toNat : Nat) : Int) = _
  rw [BitVec.ofInt_natCast, BitVec.ofInt_natCast, BitVec.toNat_xor, BitVec.toNat_ofNat, BitVec.toNat_ofNat, ha', hb']
  exact wraps_u8 _ (Int.natCast_nonneg _) (by exact_mod_cast hx)
theorem pow_small : ∀ q : Nat, q < 8 → (2 : Int) ^ q % 256 = ((2 ^ q : Nat) : Int) ∧ 2 ^ q < 256 := by decide +kernel
/-- a byte's turned bit -/
theorem turned_byte {l : List Int} (hB : Args.Bytes l) (a q : Nat) (hq : q < 8) : (0 ≤ Go.bits .xor .u8 (rd l (a : Int)) (2 ^ q % 256) ∧ Go.bits .xor .u8 (rd l (a : Int)) (2 ^ q % 256) ≤ 255) ∧ Go.bits .xor .u8 (rd l (a : Int)) (2 ^ q % 256) ≠ rd l (a : Int) := by
  have h := bytes_rd hB (a : Int)
  obtain ⟨c, hc⟩ := Int.eq_ofNat_of_zero_le h.1
  rw [hc] at h ⊢
  obtain ⟨e, h1⟩ := pow_small q hq
  rw [e, xor_nat8 c (2 ^ q) (by omega) h1]
  have h3 := bits_turn c (by omega) q hq
  omega
theorem take24 (A : Option Addr) (n c i : Nat) (hi : i ≤ n) (hc : n ≤ c) (W : World) : (Instr.slice 35 (.slice A n c) none (some (.int .i64 (i : Int))) none).run Try.prog W = .ok (.slice A i c) W := by
  obtain ⟨i0, hi0, _, hsz, _⟩ := info_parts info24
  have hel : Try.prog.elem 35 = 24 := by simp [Program.elem, Try.underlying35]
  have hu : Try.prog.underlying 35 = some (.slice (Try.prog.elem 35)) := by rw [hel]; exact Try.underlying35
  have ha : (A.map fun x => x.add 0) = A := by cases A <;> simp [Addr.add]
  rw [run_slice_h W 35 A n c hu .i64 (i : Int) (by omega) (by omega), hel]
  simp [sizeOf, typeInfo, hi0, hsz, sliced, Result.andThen, ha]
set_option maxRecDepth 100000 in
set_option maxHeartbeats 8000000 in
theorem back_main (A0 : Option Addr) (c0 : Nat) (l0 : List S24) (at_ bit : Int) (w : World) (hc0 : l0.length ≤ c0) (hC0 : Kd.C k24 w A0 l0.length l0) (hB0 : Args.Recs l0) (hI1 : Args.I64 at_) (hI2 : Args.I64 bit) (hb : lightB l0 12 = true) :
    Calls Try.prog 4 #[.slice A0 l0.length c0, .int .i64 at_, .int .i64 bit] w fun e w' => e = .returned (.bool true) ∧ Below w.heap.size w w' := by
  have hmax := Kd.C_max hC0
  have H0 := Aside0.mk hc0
  have HC0 := Aside0.mk hC0
  have HB0 := Aside0.mk hB0
  have I1 := Aside0.mk hI1
  have I2 := Aside0.mk hI2
  have HL := Aside0.mk (light_ev l0 (by omega) 12 (l0.length + 1) (by omega))
  rw [hb] at HL
  have HS := Aside0.mk (lightB_spec hb)
  clear hc0 hC0 hB0 hI1 hI2 hb hmax
  go_enter Try.func4, Try.ntmps4
  go_wp2_with (first
    | (go_at_call 20; (with_reducible refine (noonmarklaw29_Light.calls (l0.length + 1) A0 c0 l0 12 true _ HC0.out H0.out HL.out).mono ?_); rintro e_ w1 ⟨rfl, ⟨m1, rfl⟩⟩))
  go_loopw [7, 8, 9] (fun v7 v8 v9 wr => ∃ (i : Nat), v9 = .int .i64 i ∧ Aside0 (i ≤ l0.length) ∧ Aside0 (Fine (l0.take i)) ∧ Aside0 (Be w wr v7 v8 (catJ (l0.take i)) (endsJ l0 i))) (fun _ _ v9 _ => l0.length - (intOf v9).toNat)
  case atStart => exact ⟨0, rfl, ⟨Nat.zero_le _⟩, ⟨fine_nil⟩, ⟨Be.start _ _ (pw_below_drewN (Below.refl _ _) _)⟩⟩
  case round =>
    obtain ⟨i, rfl, HI, HF, HS0⟩ := hrel
    by_cases hlt : i < l0.length
    · have q0 : (0 : Int) ≤ (i : Int) := by omega
      have q1 : (i : Int) < (l0.length : Int) := by omega
      obtain ⟨ad, Ax, cx, rfl, hx0, hx1, hcx, hCx⟩ := at_T24 HC0.out (i : Int) q0 q1
      replace hx0 := pw_cell_below HS0.out.below hx0
      replace hx1 := pw_cell_below HS0.out.below hx1
      rw [Int.toNat_natCast] at hx0 hx1
      have hmem : rd_T24 l0 (i : Int) ∈ l0 := by rw [rd24_at l0 i hlt]; exact List.getElem_mem _
      have HT : Aside0 (l0.take (i + 1) = l0.take i ++ [rd_T24 l0 (i : Int)]) := ⟨by rw [rd24_at l0 i hlt]; exact takeS l0 i hlt⟩
      obtain ⟨x, hx⟩ : ∃ x, x = rd_T24 l0 (i : Int) := ⟨_, rfl⟩
      rw [← hx] at hx0 hx1 hcx hCx hmem HT
      have HM := Aside0.mk hmem
      have HX := Aside0.mk hcx
      have HCX := Aside0.mk (Kd.C_below hCx HS0.out.below)
      have HXL : Aside0 (x.f1.length ≤ 300) := ⟨HS.out.2 _ hmem⟩
      have HLE : Aside0 ((catJ (l0.take i)).length + 310 ≤ 4000000) := ⟨by
        have h1 := catJ_len (l := l0.take i) (n := 300) fun y hy => HS.out.2 y (List.mem_of_mem_take hy)
        have h2 := HS.out.1
        rw [List.length_take] at h1
        have h4 : min i l0.length * (300 + 10) ≤ 12 * 310 := Nat.mul_le_mul (by omega) (by omega)
        omega⟩
      have hil : i < l0.length := hlt
      have hi20 : i < 20 := by have := HS.out.1; omega
      clear hx hcx hCx hmem hlt
      by_cases hok : okJ x.f0 x.f1 = true
      · obtain ⟨f, hf⟩ : ∃ f, f = fr1 x := ⟨_, rfl⟩
        have HFE : Aside0 (framedJ x.f0 x.f1 = (f, 0)) := ⟨by unfold framedJ; rw [if_pos hok, hf]; rfl⟩
        have HFL : Aside0 (f.length = x.f1.length + 10) := ⟨by rw [hf]; exact fr1_len x⟩
        obtain ⟨y, hy⟩ : ∃ y, y = catJ (l0.take i) ++ f := ⟨_, rfl⟩
        have HY := Aside0.mk hy
        have HYC : Aside0 (y = catJ (l0.take (i + 1))) := ⟨by rw [HT.out, catJ_snoc, hy, hf]⟩
        have HYE : Aside0 (endsJ l0 i ++ [(y.length : Int)] = endsJ l0 (i + 1)) := ⟨by rw [HYC.out]; exact endsJ_snoc l0 i⟩
        have HEL : Aside0 ((endsJ l0 i).length ≤ 20) := ⟨by rw [endsJ_len]; omega⟩
        have HOK := Aside0.mk hok
        have HYL : Aside0 (y.length ≤ 4000000) := ⟨by have := HLE.out; have := HXL.out; have := HFL.out; rw [hy, List.length_append]; omega⟩
        clear hok hf hy
        go_wp2_with (first
          | (go_at_call 11; (with_reducible refine (own_C _ x.f0 Ax cx x.f1 HX.out HCX.out).mono ?_); rintro e_ w4 ⟨A4, c4, rfl, hc4, hC4, hb4⟩; have S4 := Aside0.mk (HS0.out.next hb4); have H4 := Aside0.mk hc4; have C4 := Aside0.mk hC4; clear hc4 hC4 hb4)
          | (go_at_call 10; (with_reducible refine (pframe_C _ x.f0 A4 c4 x.f1 H4.out C4.out f 0 HFE.out).mono ?_); rintro e_ w5 ⟨A5, c5, rfl, hc5, hC5, hb5⟩; have S5 := Aside0.mk (S4.out.next hb5); have C5 := Aside0.mk hC5; clear hc5 hC5 hb5)
          | (at_builtin; refine Kd.R_append_rows (Kd.int .u8) (w0 := w) w.heap.size (by rfl) (.tmp 39) (.tmp 40) 22 5 (.int .u8 0) 1 rfl Try.underlying22 info5 rfl (by decide) (by decide) u7 (catJ (l0.take i)) f A5 f.length c5 (fun k => True ∧ some k ≠ (u8 : Value).ownBlock) (fun _ => False) (by rfl) (by rfl) S5.out.b C5.out (fun _ _ h => h) (fun _ h => h.elim) S5.out.fresh8 S5.out.below S5.out.below.size (by have := HLE.out; have := HFL.out; have := HXL.out; omega) ?_; intro v6 w6 ho6 hb6 hg6 hat6; rw [← HY.out] at ho6; have S6 := Aside0.mk (Be.mk ho6 (Kd.R_after S5.out.e hg6 hat6) hb6 : Be w w6 v6 u8 y (endsJ l0 i)); obtain ⟨A6, c6, ev6⟩ := Kd.R_slice ho6; subst ev6; clear ho6 hb6 hg6 hat6)
          | (at_builtin; refine Kd.R_append (Kd.int .i64) (w0 := w) w.heap.size (by rfl) (.tmp 42) (.tmp 45) 45 3 (.int .i64 0) 8 rfl Try.underlying45 info3 rfl (by decide) (by decide) u8 (endsJ l0 i) (y.length : Int) [.int .i64 (y.length : Int)] (fun k => True ∧ some k ≠ (Value.slice A6 y.length c6).ownBlock) (fun _ => False) (by rfl) (by rfl) (show Kd.M (Kd.int .i64) _ _ _ (y.length : Int) [.int .i64 (y.length : Int)] from rfl) (fun _ h => h.elim) S6.out.fresh7 S6.out.e S6.out.below S6.out.below.size (by have := HEL.out; omega) ?_; intro v7 w7 ho7 hb7 hg7 hat7; rw [HYE.out] at ho7; have S7 := Aside0.mk (Be.mk (Kd.R_after S6.out.b hg7 hat7) ho7 hb7 : Be w w7 _ v7 y (endsJ l0 (i + 1))); clear ho7 hb7 hg7 hat7))
        go_roundw
        case rel => exact ⟨i + 1, by go_num, ⟨by omega⟩, ⟨by rw [HT.out]; exact fine_snoc HF.out HOK.out (HB0.out _ HM.out).2⟩, ⟨by rw [← HYC.out]; exact S7.out⟩⟩
        case measure => simp [intOf]; omega
      · have HFE : Aside0 (framedJ x.f0 x.f1 = ([], 1)) := ⟨by unfold framedJ; rw [if_neg hok]⟩
        clear hok
        go_wp2_with (first
          | (go_at_call 11; (with_reducible refine (own_C _ x.f0 Ax cx x.f1 HX.out HCX.out).mono ?_); rintro e_ w4 ⟨A4, c4, rfl, hc4, hC4, hb4⟩; have S4 := Aside0.mk (HS0.out.next hb4); have H4 := Aside0.mk hc4; have C4 := Aside0.mk hC4; clear hc4 hC4 hb4)
          | (go_at_call 10; (with_reducible refine (pframe_C _ x.f0 A4 c4 x.f1 H4.out C4.out [] 1 HFE.out).mono ?_); rintro e_ w5 ⟨A5, c5, rfl, hc5, hC5, hb5⟩; have S5 := Aside0.mk (S4.out.next hb5); have C5 := Aside0.mk hC5; clear hc5 hC5 hb5)
          | (go_at_call 9; (with_reducible refine (alive_any _).mono ?_); rintro e_ w6 ⟨rfl, hb6⟩; have HB6 := Aside0.mk hb6; clear hb6))
        go_ret
        exact ⟨rfl, below_then S5.out.below S5.out.below.size HB6.out⟩
    · have hie : i = l0.length := by have := HI.out; omega
      subst hie
      have HF1 : Aside0 (Fine l0) := ⟨by have := HF.out; rw [List.take_length] at this; exact this⟩
      have HLE : (catJ l0).length ≤ 3720 := by
        have h1 := catJ_len (l := l0) (n := 300) HS.out.2
        have h2 := HS.out.1
        have h4 : l0.length * (300 + 10) ≤ 12 * 310 := Nat.mul_le_mul (by omega) (by omega)
        omega
      obtain ⟨b0, hb0⟩ : ∃ b0, b0 = catJ l0 := ⟨_, rfl⟩
      obtain ⟨ee, hee⟩ : ∃ ee, ee = endsJ l0 l0.length := ⟨_, rfl⟩
      have HS1 : Aside0 (Be w wr u7 u8 b0 ee) := ⟨by have := HS0.out; rw [List.take_length, ← hb0, ← hee] at this; exact this⟩
      obtain ⟨b1, hb1⟩ : ∃ b1, b1 = b0 ++ [0] := ⟨_, rfl⟩
      obtain ⟨m9, hm9⟩ : ∃ m9, m9 = l0.map to29 := ⟨_, rfl⟩
      have HB1 : Aside0 (b0 ++ [0] = b1) := ⟨hb1.symm⟩
      have HRD : Aside0 (journal_Read.f b1 = some (m9, (b0.length : Int))) := ⟨by
        rw [hb1, hm9, hb0]
        exact read_cat HF1.out (fun b hb => by rw [List.mem_singleton.1 hb]; omega) (noFrame_short (by simp)) (by rw [List.length_append, List.length_singleton]; omega)⟩
      have HM9 : Aside0 (l0 = m9.map to24) := ⟨by rw [hm9, to24_to29]⟩
      have HML : Aside0 (m9.length ≤ 13 ∧ l0.length ≤ 13) := ⟨by have := HS.out.1; rw [hm9, List.length_map]; omega⟩
      have HWW : Aside0 (∀ x ∈ l0, x.f1.length ≤ 9223372036854775807) := ⟨fun x hx => by have := HS.out.2 x hx; omega⟩
      have HBL : Aside0 (b0.length ≤ 3720) := ⟨by rw [hb0]; exact HLE⟩
      have HB0C := Aside0.mk hb0
      have HEE := Aside0.mk hee
      have HEN : Aside0 (ee.length = l0.length) := ⟨by rw [hee, endsJ_len]⟩
      have d3 : decide (l0.length < l0.length) = false := decide_eq_false (by omega)
      have e1 : ((b0.length : Int) != (b0.length : Int)) = false := by simp
      obtain ⟨A7, c7, ev7⟩ := Kd.R_slice HS1.out.b
      subst ev7
      obtain ⟨A8, c8, ev8⟩ := Kd.R_slice HS1.out.e
      subst ev8
      have hb3720 : b0.length ≤ 3720 := HBL.out
      clear HF HS0 HI HLE hb0 hee hb1 hm9
      by_cases g0 : at_ < 0
      · have d5 : decide (at_ < 0) = true := decide_eq_true g0
        clear g0
        go_wp2_with (first
          | (at_builtin; refine Kd.R_append_rows (Kd.int .u8) (w0 := wr) wr.heap.size (by rfl) (.tmp 48) (.tmp 49) 22 5 (.int .u8 0) 1 rfl Try.underlying22 info5 rfl (by decide) (by decide) (.slice (some ⟨wr.heap.size, 0, none⟩) 0 0) [] b0 A7 b0.length c7 (fun _ => True) (fun _ => False) (by rfl) (by rfl) (R_zero (by ((with_reducible repeat (first | refine blk_drewN ?_ _ | refine blk_drew ?_)); first | (with_reducible exact blk_new_at (by simp; done)) | ((with_reducible refine blk_alloc ?_ _); (with_reducible repeat (first | refine blk_drewN ?_ _ | refine blk_drew ?_)); (with_reducible exact blk_new_at (by simp; done))))) (Nat.le_refl _) trivial) (Kd.C_below (Kd.R_reads' HS1.out.b).2.2 (by ((repeat (first | (with_reducible exact Below.refl _ _) | (with_reducible apply below_drew) | (with_reducible apply pw_below_drewN) | (with_reducible apply below_alloc))); (first | done | fail "not there")))) (fun _ _ h => h) (fun _ h => h.elim) (fun _ _ => trivial) (by ((repeat (first | (with_reducible exact Below.refl _ _) | (with_reducible apply below_drew) | (with_reducible apply pw_below_drewN) | (with_reducible apply below_alloc))); (first | done | fail "not there"))) (by simp) (by have := HBL.out; simp; omega) ?_; intro v50 w50 ho50 hb50 hg50 hat50; rw [List.nil_append] at ho50; have R50 := Aside0.mk ho50; have B50 := Aside0.mk hb50; clear ho50 hb50 hg50 hat50)
          | (at_builtin; refine Kd.R_append (Kd.int .u8) (w0 := wr) wr.heap.size (by rfl) (.tmp 50) (.tmp 51) 22 5 (.int .u8 0) 1 rfl Try.underlying22 info5 rfl (by decide) (by decide) v50 b0 (0 : Int) [.int .u8 0] (fun _ => True) (fun _ => False) (by rfl) (by rfl) (show Kd.M (Kd.int .u8) _ _ _ (0 : Int) [.int .u8 0] from rfl) (fun _ h => h.elim) (fun _ _ => trivial) R50.out B50.out B50.out.size (by have := HBL.out; omega) ?_; intro v52 w52 ho52 hb52 hg52 hat52; rw [HB1.out] at ho52; obtain ⟨A52, c52, rfl, hc52, hC52⟩ := Kd.R_reads ho52; have H52 := Aside0.mk hc52; have C52 := Aside0.mk hC52; have S52 := Aside0.mk (HS1.out.next hb52); clear ho52 hb52 hg52 hat52 hc52 hC52)
          | (go_at_call 13; (with_reducible refine (pread_C _ A52 c52 b1 H52.out C52.out m9 b0.length HRD.out).mono ?_); rintro e_ w53 ⟨A53, c53, rfl, hc53, hC53, hb53⟩; have S53 := Aside0.mk (S52.out.next hb53); have H53 := Aside0.mk hc53; have C53 := Aside0.mk hC53; clear hc53 hC53 hb53)
          | (go_at_call 17; (with_reducible refine (back_C _ A53 c53 m9 H53.out C53.out (by have := HML.out; omega) l0 HM9.out).mono ?_); rintro e_ w57 ⟨A57, c57, rfl, hc57, hC57, hb57⟩; have S57 := Aside0.mk (S53.out.next hb57); have H57 := Aside0.mk hc57; have C57 := Aside0.mk hC57; clear hc57 hC57 hb57)
          | (go_at_call 16; (with_reducible refine (same24_C _ A57 A0 c57 c0 l0 H57.out C57.out H0.out (Kd.C_below HC0.out S57.out.below) (by have := HML.out; omega) HWW.out).mono ?_); rintro e_ w59 ⟨rfl, m59, rfl⟩)
          | (go_at_call 9; (with_reducible refine (alive_any _).mono ?_); rintro e_ w83 ⟨rfl, hb83⟩; have HB83 := Aside0.mk hb83; clear hb83))
        go_ret
        exact ⟨rfl, below_then (S57.out.drewN _).below (S57.out.drewN _).below.size HB83.out⟩
      · have d5 : decide (at_ < 0) = false := decide_eq_false g0
        obtain ⟨a, rfl⟩ := Int.eq_ofNat_of_zero_le (Int.not_lt.1 g0)
        by_cases g1 : b0.length ≤ a
        · have d6 : decide ((b0.length : Int) ≤ (a : Int)) = true := decide_eq_true (by omega)
          have d6n : decide (b0.length ≤ a) = true := decide_eq_true g1
          clear g0 g1
          go_wp2_with (first
            | (at_builtin; refine Kd.R_append_rows (Kd.int .u8) (w0 := wr) wr.heap.size (by rfl) (.tmp 48) (.tmp 49) 22 5 (.int .u8 0) 1 rfl Try.underlying22 info5 rfl (by decide) (by decide) (.slice (some ⟨wr.heap.size, 0, none⟩) 0 0) [] b0 A7 b0.length c7 (fun _ => True) (fun _ => False) (by rfl) (by rfl) (R_zero (by ((with_reducible repeat (first | refine blk_drewN ?_ _ | refine blk_drew ?_)); first | (with_reducible exact blk_new_at (by simp; done)) | ((with_reducible refine blk_alloc ?_ _); (with_reducible repeat (first | refine blk_drewN ?_ _ | refine blk_drew ?_)); (with_reducible exact blk_new_at (by simp; done))))) (Nat.le_refl _) trivial) (Kd.C_below (Kd.R_reads' HS1.out.b).2.2 (by ((repeat (first | (with_reducible exact Below.refl _ _) | (with_reducible apply below_drew) | (with_reducible apply pw_below_drewN) | (with_reducible apply below_alloc))); (first | done | fail "not there")))) (fun _ _ h => h) (fun _ h => h.elim) (fun _ _ => trivial) (by ((repeat (first | (with_reducible exact Below.refl _ _) | (with_reducible apply below_drew) | (with_reducible apply pw_below_drewN) | (with_reducible apply below_alloc))); (first | done | fail "not there"))) (by simp) (by have := HBL.out; simp; omega) ?_; intro v50 w50 ho50 hb50 hg50 hat50; rw [List.nil_append] at ho50; have R50 := Aside0.mk ho50; have B50 := Aside0.mk hb50; clear ho50 hb50 hg50 hat50)
            | (at_builtin; refine Kd.R_append (Kd.int .u8) (w0 := wr) wr.heap.size (by rfl) (.tmp 50) (.tmp 51) 22 5 (.int .u8 0) 1 rfl Try.underlying22 info5 rfl (by decide) (by decide) v50 b0 (0 : Int) [.int .u8 0] (fun _ => True) (fun _ => False) (by rfl) (by rfl) (show Kd.M (Kd.int .u8) _ _ _ (0 : Int) [.int .u8 0] from rfl) (fun _ h => h.elim) (fun _ _ => trivial) R50.out B50.out B50.out.size (by have := HBL.out; omega) ?_; intro v52 w52 ho52 hb52 hg52 hat52; rw [HB1.out] at ho52; obtain ⟨A52, c52, rfl, hc52, hC52⟩ := Kd.R_reads ho52; have H52 := Aside0.mk hc52; have C52 := Aside0.mk hC52; have S52 := Aside0.mk (HS1.out.next hb52); clear ho52 hb52 hg52 hat52 hc52 hC52)
            | (go_at_call 13; (with_reducible refine (pread_C _ A52 c52 b1 H52.out C52.out m9 b0.length HRD.out).mono ?_); rintro e_ w53 ⟨A53, c53, rfl, hc53, hC53, hb53⟩; have S53 := Aside0.mk (S52.out.next hb53); have H53 := Aside0.mk hc53; have C53 := Aside0.mk hC53; clear hc53 hC53 hb53)
            | (go_at_call 17; (with_reducible refine (back_C _ A53 c53 m9 H53.out C53.out (by have := HML.out; omega) l0 HM9.out).mono ?_); rintro e_ w57 ⟨A57, c57, rfl, hc57, hC57, hb57⟩; have S57 := Aside0.mk (S53.out.next hb57); have H57 := Aside0.mk hc57; have C57 := Aside0.mk hC57; clear hc57 hC57 hb57)
            | (go_at_call 16; (with_reducible refine (same24_C _ A57 A0 c57 c0 l0 H57.out C57.out H0.out (Kd.C_below HC0.out S57.out.below) (by have := HML.out; omega) HWW.out).mono ?_); rintro e_ w59 ⟨rfl, m59, rfl⟩)
            | (go_at_call 9; (with_reducible refine (alive_any _).mono ?_); rintro e_ w83 ⟨rfl, hb83⟩; have HB83 := Aside0.mk hb83; clear hb83))
          go_ret
          exact ⟨rfl, below_then (S57.out.drewN _).below (S57.out.drewN _).below.size HB83.out⟩
        · have d6 : decide ((b0.length : Int) ≤ (a : Int)) = false := decide_eq_false (by omega)
          have d6n : decide (b0.length ≤ a) = false := decide_eq_false g1
          by_cases g2 : bit < 0
          · have d7 : decide (bit < 0) = true := decide_eq_true g2
            clear g0 g1 g2
            go_wp2_with (first
              | (at_builtin; refine Kd.R_append_rows (Kd.int .u8) (w0 := wr) wr.heap.size (by rfl) (.tmp 48) (.tmp 49) 22 5 (.int .u8 0) 1 rfl Try.underlying22 info5 rfl (by decide) (by decide) (.slice (some ⟨wr.heap.size, 0, none⟩) 0 0) [] b0 A7 b0.length c7 (fun _ => True) (fun _ => False) (by rfl) (by rfl) (R_zero (by ((with_reducible repeat (first | refine blk_drewN ?_ _ | refine blk_drew ?_)); first | (with_reducible exact blk_new_at (by simp; done)) | ((with_reducible refine blk_alloc ?_ _); (with_reducible repeat (first | refine blk_drewN ?_ _ | refine blk_drew ?_)); (with_reducible exact blk_new_at (by simp; done))))) (Nat.le_refl _) trivial) (Kd.C_below (Kd.R_reads' HS1.out.b).2.2 (by ((repeat (first | (with_reducible exact Below.refl _ _) | (with_reducible apply below_drew) | (with_reducible apply pw_below_drewN) | (with_reducible apply below_alloc))); (first | done | fail "not there")))) (fun _ _ h => h) (fun _ h => h.elim) (fun _ _ => trivial) (by ((repeat (first | (with_reducible exact Below.refl _ _) | (with_reducible apply below_drew) | (with_reducible apply pw_below_drewN) | (with_reducible apply below_alloc))); (first | done | fail "not there"))) (by simp) (by have := HBL.out; simp; omega) ?_; intro v50 w50 ho50 hb50 hg50 hat50; rw [List.nil_append] at ho50; have R50 := Aside0.mk ho50; have B50 := Aside0.mk hb50; clear ho50 hb50 hg50 hat50)
              | (at_builtin; refine Kd.R_append (Kd.int .u8) (w0 := wr) wr.heap.size (by rfl) (.tmp 50) (.tmp 51) 22 5 (.int .u8 0) 1 rfl Try.underlying22 info5 rfl (by decide) (by decide) v50 b0 (0 : Int) [.int .u8 0] (fun _ => True) (fun _ => False) (by rfl) (by rfl) (show Kd.M (Kd.int .u8) _ _ _ (0 : Int) [.int .u8 0] from rfl) (fun _ h => h.elim) (fun _ _ => trivial) R50.out B50.out B50.out.size (by have := HBL.out; omega) ?_; intro v52 w52 ho52 hb52 hg52 hat52; rw [HB1.out] at ho52; obtain ⟨A52, c52, rfl, hc52, hC52⟩ := Kd.R_reads ho52; have H52 := Aside0.mk hc52; have C52 := Aside0.mk hC52; have S52 := Aside0.mk (HS1.out.next hb52); clear ho52 hb52 hg52 hat52 hc52 hC52)
              | (go_at_call 13; (with_reducible refine (pread_C _ A52 c52 b1 H52.out C52.out m9 b0.length HRD.out).mono ?_); rintro e_ w53 ⟨A53, c53, rfl, hc53, hC53, hb53⟩; have S53 := Aside0.mk (S52.out.next hb53); have H53 := Aside0.mk hc53; have C53 := Aside0.mk hC53; clear hc53 hC53 hb53)
              | (go_at_call 17; (with_reducible refine (back_C _ A53 c53 m9 H53.out C53.out (by have := HML.out; omega) l0 HM9.out).mono ?_); rintro e_ w57 ⟨A57, c57, rfl, hc57, hC57, hb57⟩; have S57 := Aside0.mk (S53.out.next hb57); have H57 := Aside0.mk hc57; have C57 := Aside0.mk hC57; clear hc57 hC57 hb57)
              | (go_at_call 16; (with_reducible refine (same24_C _ A57 A0 c57 c0 l0 H57.out C57.out H0.out (Kd.C_below HC0.out S57.out.below) (by have := HML.out; omega) HWW.out).mono ?_); rintro e_ w59 ⟨rfl, m59, rfl⟩)
              | (go_at_call 9; (with_reducible refine (alive_any _).mono ?_); rintro e_ w83 ⟨rfl, hb83⟩; have HB83 := Aside0.mk hb83; clear hb83))
            go_ret
            exact ⟨rfl, below_then (S57.out.drewN _).below (S57.out.drewN _).below.size HB83.out⟩
          · have d7 : decide (bit < 0) = false := decide_eq_false g2
            obtain ⟨q, rfl⟩ := Int.eq_ofNat_of_zero_le (Int.not_lt.1 g2)
            by_cases g3 : 7 < q
            · have d8 : decide ((7 : Int) < (q : Int)) = true := decide_eq_true (by omega)
              have d8n : decide (7 < q) = true := decide_eq_true g3
              clear g0 g1 g2 g3
              go_wp2_with (first
                | (at_builtin; refine Kd.R_append_rows (Kd.int .u8) (w0 := wr) wr.heap.size (by rfl) (.tmp 48) (.tmp 49) 22 5 (.int .u8 0) 1 rfl Try.underlying22 info5 rfl (by decide) (by decide) (.slice (some ⟨wr.heap.size, 0, none⟩) 0 0) [] b0 A7 b0.length c7 (fun _ => True) (fun _ => False) (by rfl) (by rfl) (R_zero (by ((with_reducible repeat (first | refine blk_drewN ?_ _ | refine blk_drew ?_)); first | (with_reducible exact blk_new_at (by simp; done)) | ((with_reducible refine blk_alloc ?_ _); (with_reducible repeat (first | refine blk_drewN ?_ _ | refine blk_drew ?_)); (with_reducible exact blk_new_at (by simp; done))))) (Nat.le_refl _) trivial) (Kd.C_below (Kd.R_reads' HS1.out.b).2.2 (by ((repeat (first | (with_reducible exact Below.refl _ _) | (with_reducible apply below_drew) | (with_reducible apply pw_below_drewN) | (with_reducible apply below_alloc))); (first | done | fail "not there")))) (fun _ _ h => h) (fun _ h => h.elim) (fun _ _ => trivial) (by ((repeat (first | (with_reducible exact Below.refl _ _) | (with_reducible apply below_drew) | (with_reducible apply pw_below_drewN) | (with_reducible apply below_alloc))); (first | done | fail "not there"))) (by simp) (by have := HBL.out; simp; omega) ?_; intro v50 w50 ho50 hb50 hg50 hat50; rw [List.nil_append] at ho50; have R50 := Aside0.mk ho50; have B50 := Aside0.mk hb50; clear ho50 hb50 hg50 hat50)
                | (at_builtin; refine Kd.R_append (Kd.int .u8) (w0 := wr) wr.heap.size (by rfl) (.tmp 50) (.tmp 51) 22 5 (.int .u8 0) 1 rfl Try.underlying22 info5 rfl (by decide) (by decide) v50 b0 (0 : Int) [.int .u8 0] (fun _ => True) (fun _ => False) (by rfl) (by rfl) (show Kd.M (Kd.int .u8) _ _ _ (0 : Int) [.int .u8 0] from rfl) (fun _ h => h.elim) (fun _ _ => trivial) R50.out B50.out B50.out.size (by have := HBL.out; omega) ?_; intro v52 w52 ho52 hb52 hg52 hat52; rw [HB1.out] at ho52; obtain ⟨A52, c52, rfl, hc52, hC52⟩ := Kd.R_reads ho52; have H52 := Aside0.mk hc52; have C52 := Aside0.mk hC52; have S52 := Aside0.mk (HS1.out.next hb52); clear ho52 hb52 hg52 hat52 hc52 hC52)
                | (go_at_call 13; (with_reducible refine (pread_C _ A52 c52 b1 H52.out C52.out m9 b0.length HRD.out).mono ?_); rintro e_ w53 ⟨A53, c53, rfl, hc53, hC53, hb53⟩; have S53 := Aside0.mk (S52.out.next hb53); have H53 := Aside0.mk hc53; have C53 := Aside0.mk hC53; clear hc53 hC53 hb53)
                | (go_at_call 17; (with_reducible refine (back_C _ A53 c53 m9 H53.out C53.out (by have := HML.out; omega) l0 HM9.out).mono ?_); rintro e_ w57 ⟨A57, c57, rfl, hc57, hC57, hb57⟩; have S57 := Aside0.mk (S53.out.next hb57); have H57 := Aside0.mk hc57; have C57 := Aside0.mk hC57; clear hc57 hC57 hb57)
                | (go_at_call 16; (with_reducible refine (same24_C _ A57 A0 c57 c0 l0 H57.out C57.out H0.out (Kd.C_below HC0.out S57.out.below) (by have := HML.out; omega) HWW.out).mono ?_); rintro e_ w59 ⟨rfl, m59, rfl⟩)
                | (go_at_call 9; (with_reducible refine (alive_any _).mono ?_); rintro e_ w83 ⟨rfl, hb83⟩; have HB83 := Aside0.mk hb83; clear hb83))
              go_ret
              exact ⟨rfl, below_then (S57.out.drewN _).below (S57.out.drewN _).below.size HB83.out⟩
            · have d8 : decide ((7 : Int) < (q : Int)) = false := decide_eq_false (by omega)
              have d8n : decide (7 < q) = false := decide_eq_false g3
              have ha : a < b0.length := by omega
              have hq : q < 8 := by omega
              clear g0 g1 g2 g3
              go_wp2_with (first
                | (at_builtin; refine Kd.R_append_rows (Kd.int .u8) (w0 := wr) wr.heap.size (by rfl) (.tmp 48) (.tmp 49) 22 5 (.int .u8 0) 1 rfl Try.underlying22 info5 rfl (by decide) (by decide) (.slice (some ⟨wr.heap.size, 0, none⟩) 0 0) [] b0 A7 b0.length c7 (fun _ => True) (fun _ => False) (by rfl) (by rfl) (R_zero (by ((with_reducible repeat (first | refine blk_drewN ?_ _ | refine blk_drew ?_)); first | (with_reducible exact blk_new_at (by simp; done)) | ((with_reducible refine blk_alloc ?_ _); (with_reducible repeat (first | refine blk_drewN ?_ _ | refine blk_drew ?_)); (with_reducible exact blk_new_at (by simp; done))))) (Nat.le_refl _) trivial) (Kd.C_below (Kd.R_reads' HS1.out.b).2.2 (by ((repeat (first | (with_reducible exact Below.refl _ _) | (with_reducible apply below_drew) | (with_reducible apply pw_below_drewN) | (with_reducible apply below_alloc))); (first | done | fail "not there")))) (fun _ _ h => h) (fun _ h => h.elim) (fun _ _ => trivial) (by ((repeat (first | (with_reducible exact Below.refl _ _) | (with_reducible apply below_drew) | (with_reducible apply pw_below_drewN) | (with_reducible apply below_alloc))); (first | done | fail "not there"))) (by simp) (by have := HBL.out; simp; omega) ?_; intro v50 w50 ho50 hb50 hg50 hat50; rw [List.nil_append] at ho50; have R50 := Aside0.mk ho50; have B50 := Aside0.mk hb50; clear ho50 hb50 hg50 hat50)
                | (at_builtin; refine Kd.R_append (Kd.int .u8) (w0 := wr) wr.heap.size (by rfl) (.tmp 50) (.tmp 51) 22 5 (.int .u8 0) 1 rfl Try.underlying22 info5 rfl (by decide) (by decide) v50 b0 (0 : Int) [.int .u8 0] (fun _ => True) (fun _ => False) (by rfl) (by rfl) (show Kd.M (Kd.int .u8) _ _ _ (0 : Int) [.int .u8 0] from rfl) (fun _ h => h.elim) (fun _ _ => trivial) R50.out B50.out B50.out.size (by have := HBL.out; omega) ?_; intro v52 w52 ho52 hb52 hg52 hat52; rw [HB1.out] at ho52; obtain ⟨A52, c52, rfl, hc52, hC52⟩ := Kd.R_reads ho52; have H52 := Aside0.mk hc52; have C52 := Aside0.mk hC52; have S52 := Aside0.mk (HS1.out.next hb52); clear ho52 hb52 hg52 hat52 hc52 hC52)
                | (go_at_call 13; (with_reducible refine (pread_C _ A52 c52 b1 H52.out C52.out m9 b0.length HRD.out).mono ?_); rintro e_ w53 ⟨A53, c53, rfl, hc53, hC53, hb53⟩; have S53 := Aside0.mk (S52.out.next hb53); have H53 := Aside0.mk hc53; have C53 := Aside0.mk hC53; clear hc53 hC53 hb53)
                | (go_at_call 17; (with_reducible refine (back_C _ A53 c53 m9 H53.out C53.out (by have := HML.out; omega) l0 HM9.out).mono ?_); rintro e_ w57 ⟨A57, c57, rfl, hc57, hC57, hb57⟩; have S57 := Aside0.mk (S53.out.next hb57); have H57 := Aside0.mk hc57; have C57 := Aside0.mk hC57; clear hc57 hC57 hb57)
                | (go_at_call 16; (with_reducible refine (same24_C _ A57 A0 c57 c0 l0 H57.out C57.out H0.out (Kd.C_below HC0.out S57.out.below) (by have := HML.out; omega) HWW.out).mono ?_); rintro e_ w59 ⟨rfl, m59, rfl⟩)
                | (at_builtin; refine Kd.R_append_rows (Kd.int .u8) (w0 := w57) w57.heap.size (by rfl) (.tmp 84) (.tmp 85) 22 5 (.int .u8 0) 1 rfl Try.underlying22 info5 rfl (by decide) (by decide) (.slice (some ⟨w57.heap.size, 0, none⟩) 0 0) [] b0 A7 b0.length c7 (fun _ => True) (fun _ => False) (by rfl) (by rfl) (R_zero (by ((with_reducible repeat (first | refine blk_drewN ?_ _ | refine blk_drew ?_)); first | (with_reducible exact blk_new_at (by simp; done)) | ((with_reducible refine blk_alloc ?_ _); (with_reducible repeat (first | refine blk_drewN ?_ _ | refine blk_drew ?_)); (with_reducible exact blk_new_at (by simp; done))))) (Nat.le_refl _) trivial) (Kd.C_below (Kd.R_reads' S57.out.b).2.2 (by ((repeat (first | (with_reducible exact Below.refl _ _) | (with_reducible apply below_drew) | (with_reducible apply pw_below_drewN) | (with_reducible apply below_alloc))); (first | done | fail "not there")))) (fun _ _ h => h) (fun _ h => h.elim) (fun _ _ => trivial) (by ((repeat (first | (with_reducible exact Below.refl _ _) | (with_reducible apply below_drew) | (with_reducible apply pw_below_drewN) | (with_reducible apply below_alloc))); (first | done | fail "not there"))) (by simp) (by have := HBL.out; simp; omega) ?_; intro v86 w86 ho86 hb86 hg86 hat86; rw [List.nil_append] at ho86; obtain ⟨g, cap, rfl, hgb, hgl, cells, hgc⟩ := Kd.N_form (Kd.R_N ho86) (show 0 < b0.length from by omega); have R86 := Aside0.mk ho86; have B86 := Aside0.mk hb86; have GB := Aside0.mk hgb; have GC := Aside0.mk hgc; have hc86 : w86.cell? ⟨g, a, none⟩ = some (.int .u8 (rd b0 (a : Int))) := (Kd.R_cell (enc := Value.int .u8) (h1 := fun _ => rfl) (0 : Int) ho86 (a : Int) (by omega) (by omega)).1; have hf86 : w86.frozen? ⟨g, a, none⟩ = false := (Kd.R_cell (enc := Value.int .u8) (h1 := fun _ => rfl) (0 : Int) ho86 (a : Int) (by omega) (by omega)).2; clear ho86 hb86 hg86 hat86 hgb hgl hgc))
              have q1 : (0 : Int) ≤ (a : Int) := by omega
              have q2 : (a : Int) < (b0.length : Int) := by omega
              have q3 : (0 : Int) ≤ (q : Int) := by omega
              go_region
              obtain ⟨v, hv⟩ : ∃ v, v = Go.bits .xor .u8 (rd b0 (a : Int)) (2 ^ q % 256) := ⟨_, rfl⟩
              have hvt := turned_byte (l := b0) (by rw [HB0C.out]; exact catJ_bytes HF1.out) a q hq
              rw [← hv] at hvt ⊢
              have HVT := Aside0.mk hvt
              have R19 := Aside0.mk (Kd.R_drew (Kd.R_put (enc := Value.int .u8) (h1 := fun _ => rfl) R86.out (a : Int) v).1)
              have S19 := Aside0.mk (S57.out.next (below_drew (below_set (j := a) (v := .int .u8 v) B86.out GB.out)))
              rw [Int.toNat_natCast] at R19
              obtain ⟨bc, hbc⟩ : ∃ bc, bc = b0.set a v := ⟨_, rfl⟩
              rw [← hbc] at R19
              have HBC := Aside0.mk hbc
              have HBCL : Aside0 (bc.length = b0.length) := ⟨by rw [hbc, List.length_set]⟩
              generalize (w86.setCell ⟨g, a, none⟩ (.int .u8 v)).drew = W19 at R19 S19 ⊢
              clear hv hvt hbc hc86 hf86
              go_wp2
              go_loopw [15] (fun v15 wq => ∃ (i : Nat), v15 = .int .i64 i ∧ Aside0 (i ≤ l0.length) ∧ Aside0 (endJ l0 i ≤ a) ∧ wq = W19) (fun v15 _ => l0.length - (intOf v15).toNat)
              case atStart => exact ⟨0, rfl, ⟨Nat.zero_le _⟩, ⟨by rw [endJ_zero]; omega⟩, rfl⟩
              case round =>
                obtain ⟨i, rfl, HI, HEA, rfl⟩ := hrel
                by_cases hlt : i < l0.length
                · have q4 : (0 : Int) ≤ (i : Int) := by omega
                  have q5 : (i : Int) < (ee.length : Int) := by have := HEN.out; omega
                  have q5n : i < ee.length := by have := HEN.out; omega
                  have q7 : decide (i < ee.length) = true := decide_eq_true q5n
                  obtain ⟨ad, rfl, hx⟩ := Kd.at_int (Kd.R_reads' S19.out.e).2.2 (i : Int) q4 q5
                  rw [Int.toNat_natCast] at hx
                  have hi20 : i < 20 := by have := HS.out.1; omega
                  have HIL : Aside0 (i < l0.length) := ⟨hlt⟩
                  have hre : rd ee (i : Int) = (endJ l0 (i + 1) : Int) := by rw [HEE.out]; exact endsJ_at l0 l0.length i hlt
                  obtain ⟨E1, hE1⟩ : ∃ E1, E1 = endJ l0 (i + 1) := ⟨_, rfl⟩
                  rw [hre, ← hE1] at hx
                  have HE1 := Aside0.mk hE1
                  clear hlt hre hE1
                  by_cases hle : E1 ≤ a
                  · have q8 : decide ((E1 : Int) ≤ (a : Int)) = true := decide_eq_true (by omega)
                    have q8n : decide (E1 ≤ a) = true := decide_eq_true hle
                    have HLE : Aside0 (endJ l0 (i + 1) ≤ a) := ⟨by rw [← HE1.out]; exact hle⟩
                    clear hle
                    go_wp2
                    go_roundw
                    case rel => exact ⟨i + 1, by go_num, ⟨HIL.out⟩, HLE, by first | rfl | trivial⟩
                    case measure => have := HIL.out; simp [intOf]; omega
                  · have q8 : decide ((E1 : Int) ≤ (a : Int)) = false := decide_eq_false (by omega)
                    have q8n : decide (E1 ≤ a) = false := decide_eq_false hle
                    have HLT : Aside0 (a < endJ l0 (i + 1)) := ⟨by rw [← HE1.out]; omega⟩
                    have HC2 := Aside0.mk (Kd.R_reads' R19.out)
                    obtain ⟨lt, hlt_⟩ : ∃ lt, lt = l0.take i := ⟨_, rfl⟩
                    obtain ⟨mi, hmi⟩ : ∃ mi, mi = lt.map to29 := ⟨_, rfl⟩
                    have HLTL : Aside0 (lt.length = i) := ⟨by rw [hlt_, List.length_take]; have := HIL.out; omega⟩
                    have HMI : Aside0 (lt = mi.map to24) := ⟨by rw [hmi, to24_to29]⟩
                    have HMIL : Aside0 (mi.length ≤ 13) := ⟨by rw [hmi, List.length_map]; have := HLTL.out; have := HIL.out; have := HML.out; omega⟩
                    have HWT : Aside0 (∀ x ∈ lt, x.f1.length ≤ 9223372036854775807) := ⟨fun x hx => HWW.out x (by rw [hlt_] at hx; exact List.mem_of_mem_take hx)⟩
                    have HCT : Aside0 (Kd.C k24 w A0 lt.length lt) := ⟨by rw [hlt_]; exact Kd.C_take HC0.out (by have := HIL.out; omega)⟩
                    have HSA : Aside0 (∀ (W : World) (A : Option Addr) (c : Nat), Below w.heap.size w W → lt.length ≤ c → Kd.C k24 W A lt.length lt → Calls Try.prog 16 #[.slice A lt.length c, .slice A0 i c0] W fun e w' => e = .returned (.bool true) ∧ ∃ k, w' = W.drewN k) := ⟨fun W A c hb hc hC => by
                      have := same24_C W A A0 c c0 lt hc hC (by have := HLTL.out; have := HIL.out; have := H0.out; omega) (Kd.C_below HCT.out hb) (by have := HLTL.out; have := HML.out; have := HIL.out; omega) HWT.out
                      rw [HLTL.out] at this ⊢
                      exact this⟩
                    obtain ⟨E, hE⟩ : ∃ E, E = endJ l0 i := ⟨_, rfl⟩
                    have HE := Aside0.mk hE
                    have hEa : E ≤ a := by rw [hE]; exact HEA.out
                    have HPR : a - E < 2 ∨ 6 ≤ a - E → ∀ W : World, Kd.C (Kd.int .u8) W (some ⟨g, 0, none⟩) bc.length bc → Calls Try.prog 13 #[.slice (some ⟨g, 0, none⟩) b0.length cap] W fun e w' => ∃ A' c', e = .returned (.tuple #[.slice A' mi.length c', .int .i64 E]) ∧ mi.length ≤ c' ∧ Kd.C k29 w' A' mi.length mi ∧ Below W.heap.size W w' := fun h2 W hC => by
                      have h3 := turned_read HF1.out HIL.out HEA.out HLT.out (by rw [← hE]; exact h2) HVT.out.1 (by rw [← HB0C.out]; exact HVT.out.2) (by rw [← HB0C.out]; omega)
                      rw [← HB0C.out, ← HBC.out, ← hlt_, ← hmi, ← hE] at h3
                      have := pread_C W (some ⟨g, 0, none⟩) cap bc (by rw [HBCL.out]; exact HC2.out.2.1) hC mi E h3
                      rw [HBCL.out] at this
                      exact this
                    have HCC : Aside0 (Kd.C (Kd.int .u8) _ (some ⟨g, 0, none⟩) bc.length bc) := ⟨HC2.out.2.2⟩
                    have w1 : IntKind.i64.wrap ((a : Int) - (E : Int)) = (a : Int) - (E : Int) := IntWalk.i64_in _ (by omega)
                    have ez : ((E : Int) == (E : Int)) = true := beq_self_eq_true _
                    have htk : ∀ W : World, (Instr.slice 35 (.slice A0 l0.length c0) none (some (.int .i64 (i : Int))) none).run Try.prog W = .ok (.slice A0 i c0) W := fun W => take24 _ _ _ _ (by have := HIL.out; omega) H0.out W
                    clear hE hlt_ hmi hle
                    by_cases hz : i = 0
                    · have hE0 : E = 0 := by rw [HE.out, hz, endJ_zero]
                      have ze : ((E : Int) == 0) = true := by rw [hE0]; rfl
                      have zi : ((i : Int) == 0) = true := by rw [hz]; rfl
                      have zp : decide ((0 : Int) < (i : Int)) = false := decide_eq_false (by omega)
                      have zpn : decide (0 < i) = false := decide_eq_false (by omega)
                      have HZ := Aside0.mk hz
                      clear hz
                      by_cases hmid : 2 ≤ a ∧ a < 6
                      · have r1 : decide (2 ≤ a) = true := decide_eq_true hmid.1
                        have r2 : decide (a < 6) = true := decide_eq_true hmid.2
                        have r3 : decide ((2 : Int) ≤ (a : Int)) = true := decide_eq_true (by omega)
                        have r4 : decide ((a : Int) < 6) = true := decide_eq_true (by omega)
                        clear hmid hE0
                        go_wp2_with (first
                          | (go_at_call 9; (with_reducible refine (alive_any _).mono ?_); rintro e_ w83 ⟨rfl, hb83⟩; have HB83 := Aside0.mk hb83; clear hb83))
                        go_ret
                        exact ⟨rfl, below_then S19.out.below S19.out.below.size HB83.out⟩
                      · have HP := Aside0.mk (HPR (by omega))
                        by_cases hlo : a < 2
                        · have r1 : decide (2 ≤ a) = false := decide_eq_false (by omega)
                          have r3 : decide ((2 : Int) ≤ (a : Int)) = false := decide_eq_false (by omega)
                          clear hmid hlo HPR hE0
                          go_wp2_with (first
                            | (go_at_call 13; (with_reducible refine (HP.out _ HCC.out).mono ?_); rintro e_ w131 ⟨A131, c131, rfl, hc131, hC131, hb131⟩; have S131 := Aside0.mk (S19.out.next hb131); have H131 := Aside0.mk hc131; have C131 := Aside0.mk hC131; clear hc131 hC131 hb131))
                          refine start_ (n := 31) (S := fun _ => True) (ds := []) #[false, false, false, false, false, false, false, false, false, false, false, false, false, false, false, false, false, false, false, false, false, false, false, false, false, false, false, false, false, false, false] (by kernel_rfl) rfl rfl trivial (fun hHeld => ?_)
                          refine pure_ (i := 0) (N := some 134) (v := ?_) (a' := ?_) #[true, false, false, false, false, false, false, false, false, false, false, false, false, false, false, false, false, false, false, false, false, false, false, false, false, false, false, false, false, false, false] rfl rfl (by kernel_rfl) (fun _ _ _ h => h) (Or.inl ⟨by rfl, ?_⟩) ?_ ?_
                          rotate_left
                          · intro w'
                            go_simp
                            with_reducible rfl
                          rotate_left
                          · simp only [Act.put, List.setIfInBounds_toArray, List.set_cons_zero, List.set_cons_succ, i64_w, i32_w]
                            rfl
                          refine pure_ (i := 2) (N := some 136) (v := ?_) (a' := ?_) #[true, false, true, false, false, false, false, false, false, false, false, false, false, false, false, false, false, false, false, false, false, false, false, false, false, false, false, false, false, false, false] rfl rfl (by kernel_rfl) (fun _ _ _ h => h) (Or.inl ⟨by rfl, ?_⟩) ?_ ?_
                          rotate_left
                          · intro w'
                            go_simp
                            with_reducible rfl
                          rotate_left
                          · simp only [Act.put, List.setIfInBounds_toArray, List.set_cons_zero, List.set_cons_succ, i64_w, i32_w]
                            rfl
                          refine pure_ (i := 3) (N := some 137) (v := ?_) (a' := ?_) #[true, false, true, true, false, false, false, false, false, false, false, false, false, false, false, false, false, false, false, false, false, false, false, false, false, false, false, false, false, false, false] rfl rfl (by kernel_rfl) (fun _ _ _ h => h) (Or.inl ⟨by rfl, ?_⟩) ?_ ?_
                          rotate_left
                          · intro w'
                            go_simp
                            with_reducible rfl
                          rotate_left
                          · simp only [Act.put, List.setIfInBounds_toArray, List.set_cons_zero, List.set_cons_succ, i64_w, i32_w]
                            rfl
                          refine pure_ (i := 4) (N := some 138) (v := ?_) (a' := ?_) #[true, false, true, true, true, false, false, false, false, false, false, false, false, false, false, false, false, false, false, false, false, false, false, false, false, false, false, false, false, false, false] rfl rfl (by kernel_rfl) (fun _ _ _ h => h) (Or.inl ⟨by rfl, ?_⟩) ?_ ?_
                          rotate_left
                          · intro w'
                            go_simp
                            with_reducible rfl
                          rotate_left
                          · simp only [Act.put, List.setIfInBounds_toArray, List.set_cons_zero, List.set_cons_succ, i64_w, i32_w]
                            rfl
                          refine one_ (i := 1) (N := some 135) #[true, true, true, true, true, false, false, false, false, false, false, false, false, false, false, false, false, false, false, false, false, false, false, false, false, false, false, false, false, false, false] rfl rfl (by kernel_rfl) (by decide) (fun K hK => ?_)
                          refine goes_ Try.func17 (by kernel_rfl) rfl #[.slice A131 mi.length c131] (by rfl) rfl rfl (by (try simp only [List.map_toArray, List.map_cons, List.map_nil]); first | done | rfl) ?_
                          with_reducible refine (back_C _ A131 c131 mi H131.out (Kd.C_below C131.out (by ((repeat (first | (with_reducible exact Below.refl _ _) | (with_reducible apply below_drew) | (with_reducible apply pw_below_drewN) | (with_reducible apply below_alloc))); (first | done | fail "not there")))) (by have := HMIL.out; omega) lt HMI.out).mono ?_
                          rintro e_ w135 ⟨A135, c135, rfl, hc135, hC135, hb135⟩
                          refine ⟨_, rfl, ?_⟩
                          have S135 := Aside0.mk ((S131.out.next (by ((repeat (first | (with_reducible exact Below.refl _ _) | (with_reducible apply below_drew) | (with_reducible apply pw_below_drewN) | (with_reducible apply below_alloc))); (first | done | fail "not there")))).next hb135)
                          have H135 := Aside0.mk hc135
                          have C135 := Aside0.mk hC135
                          clear hc135 hC135 hb135
                          refine hK.out _ _ trivial (fun hHeld => ?_)
                          clear hK K
                          refine norm_ (a' := ?_) ?_ ?_
                          rotate_left
                          · show Act.put _ (some 135) _ = _
                            simp only [Act.put, List.setIfInBounds_toArray, List.set_cons_zero, List.set_cons_succ, i64_w, i32_w]
                            rfl
                          refine one_ (i := 5) (N := some 139) #[true, true, true, true, true, true, false, false, false, false, false, false, false, false, false, false, false, false, false, false, false, false, false, false, false, false, false, false, false, false, false] rfl rfl (by kernel_rfl) (by decide) (fun K hK => ?_)
                          refine goes_ Try.func16 (by kernel_rfl) rfl #[.slice A135 lt.length c135, .slice A0 i c0] (by rfl) rfl rfl (by (try simp only [List.map_toArray, List.map_cons, List.map_nil]); first | done | rfl) ?_
                          with_reducible refine (HSA.out _ A135 c135 S135.out.below H135.out C135.out).mono ?_
                          rintro e_ w139 ⟨rfl, m139, rfl⟩
                          refine ⟨_, rfl, ?_⟩
                          refine hK.out _ _ trivial (fun hHeld => ?_)
                          clear hK K
                          refine norm_ (a' := ?_) ?_ ?_
                          rotate_left
                          · show Act.put _ (some 139) _ = _
                            simp only [Act.put, List.setIfInBounds_toArray, List.set_cons_zero, List.set_cons_succ, i64_w, i32_w]
                            rfl
                          refine pure_ (i := 6) (N := some 140) (v := ?_) (a' := ?_) #[true, true, true, true, true, true, true, false, false, false, false, false, false, false, false, false, false, false, false, false, false, false, false, false, false, false, false, false, false, false, false] rfl rfl (by kernel_rfl) (fun _ _ _ h => h) (Or.inl ⟨by rfl, ?_⟩) ?_ ?_
                          rotate_left
                          · intro w'
                            go_simp
                            with_reducible rfl
                          rotate_left
                          · simp only [Act.put, List.setIfInBounds_toArray, List.set_cons_zero, List.set_cons_succ, i64_w, i32_w]
                            rfl
                          refine pure_ (i := 7) (N := some 141) (v := ?_) (a' := ?_) #[true, true, true, true, true, true, true, true, false, false, false, false, false, false, false, false, false, false, false, false, false, false, false, false, false, false, false, false, false, false, false] rfl rfl (by kernel_rfl) (fun _ _ _ h => h) (Or.inl ⟨by rfl, ?_⟩) ?_ ?_
                          rotate_left
                          · intro w'
                            go_simp
                            with_reducible rfl
                          rotate_left
                          · simp only [Act.put, List.setIfInBounds_toArray, List.set_cons_zero, List.set_cons_succ, i64_w, i32_w]
                            rfl
                          refine pure_ (i := 8) (N := some 142) (v := ?_) (a' := ?_) #[true, true, true, true, true, true, true, true, true, false, false, false, false, false, false, false, false, false, false, false, false, false, false, false, false, false, false, false, false, false, false] rfl rfl (by kernel_rfl) (fun _ _ _ h => h) (Or.inl ⟨by rfl, ?_⟩) ?_ ?_
                          rotate_left
                          · intro w'
                            go_simp
                            with_reducible rfl
                          rotate_left
                          · simp only [Act.put, List.setIfInBounds_toArray, List.set_cons_zero, List.set_cons_succ, i64_w, i32_w]
                            rfl
                          refine pure_ (i := 9) (N := some 143) (v := ?_) (a' := ?_) #[true, true, true, true, true, true, true, true, true, true, false, false, false, false, false, false, false, false, false, false, false, false, false, false, false, false, false, false, false, false, false] rfl rfl (by kernel_rfl) (fun _ _ _ h => h) (Or.inl ⟨by rfl, ?_⟩) ?_ ?_
                          rotate_left
                          · intro w'
                            go_simp
                            with_reducible rfl
                          rotate_left
                          · simp only [Act.put, List.setIfInBounds_toArray, List.set_cons_zero, List.set_cons_succ, i64_w, i32_w]
                            rfl
                          refine pure_ (i := 10) (N := some 144) (v := ?_) (a' := ?_) #[true, true, true, true, true, true, true, true, true, true, true, false, false, false, false, false, false, false, false, false, false, false, false, false, false, false, false, false, false, false, false] rfl rfl (by kernel_rfl) (fun _ _ _ h => h) (Or.inl ⟨by rfl, ?_⟩) ?_ ?_
                          rotate_left
                          · intro w'
                            go_simp
                            with_reducible rfl
                          rotate_left
                          · simp only [Act.put, List.setIfInBounds_toArray, List.set_cons_zero, List.set_cons_succ, i64_w, i32_w]
                            rfl
                          refine pure_ (i := 11) (N := some 145) (v := ?_) (a' := ?_) #[true, true, true, true, true, true, true, true, true, true, true, true, false, false, false, false, false, false, false, false, false, false, false, false, false, false, false, false, false, false, false] rfl rfl (by kernel_rfl) (fun _ _ _ h => h) (Or.inl ⟨by rfl, ?_⟩) ?_ ?_
                          rotate_left
                          · intro w'
                            go_simp
                            with_reducible rfl
                          rotate_left
                          · simp only [Act.put, List.setIfInBounds_toArray, List.set_cons_zero, List.set_cons_succ, i64_w, i32_w]
                            rfl
                          refine pure_ (i := 12) (N := some 146) (v := ?_) (a' := ?_) #[true, true, true, true, true, true, true, true, true, true, true, true, true, false, false, false, false, false, false, false, false, false, false, false, false, false, false, false, false, false, false] rfl rfl (by kernel_rfl) (fun _ _ _ h => h) (Or.inl ⟨by rfl, ?_⟩) ?_ ?_
                          rotate_left
                          · intro w'
                            go_simp
                            with_reducible rfl
                          rotate_left
                          · simp only [Act.put, List.setIfInBounds_toArray, List.set_cons_zero, List.set_cons_succ, i64_w, i32_w]
                            rfl
                          refine pure_ (i := 13) (N := some 147) (v := ?_) (a' := ?_) #[true, true, true, true, true, true, true, true, true, true, true, true, true, true, false, false, false, false, false, false, false, false, false, false, false, false, false, false, false, false, false] rfl rfl (by kernel_rfl) (fun _ _ _ h => h) (Or.inl ⟨by rfl, ?_⟩) ?_ ?_
                          rotate_left
                          · intro w'
                            go_simp
                            with_reducible rfl
                          rotate_left
                          · simp only [Act.put, List.setIfInBounds_toArray, List.set_cons_zero, List.set_cons_succ, i64_w, i32_w]
                            rfl
                          refine pure_ (i := 14) (N := some 148) (v := undef) (a' := ?_) #[true, true, true, true, true, true, true, true, true, true, true, true, true, true, true, false, false, false, false, false, false, false, false, false, false, false, false, false, false, false, false] rfl rfl (by kernel_rfl) (fun _ _ _ h => h) (Or.inr ⟨by rfl, rfl⟩) ?ha13 ?hh13
                          case ha13 => (simp only [Act.put, List.setIfInBounds_toArray, List.set_cons_zero, List.set_cons_succ, i64_w, i32_w]; rfl)
                          refine pure_ (i := 15) (N := some 149) (v := undef) (a' := ?_) #[true, true, true, true, true, true, true, true, true, true, true, true, true, true, true, true, false, false, false, false, false, false, false, false, false, false, false, false, false, false, false] rfl rfl (by kernel_rfl) (fun _ _ _ h => h) (Or.inr ⟨by rfl, rfl⟩) ?ha14 ?hh14
                          case ha14 => (simp only [Act.put, List.setIfInBounds_toArray, List.set_cons_zero, List.set_cons_succ, i64_w, i32_w]; rfl)
                          refine pure_ (i := 16) (N := some 150) (v := undef) (a' := ?_) #[true, true, true, true, true, true, true, true, true, true, true, true, true, true, true, true, true, false, false, false, false, false, false, false, false, false, false, false, false, false, false] rfl rfl (by kernel_rfl) (fun _ _ _ h => h) (Or.inr ⟨by rfl, rfl⟩) ?ha15 ?hh15
                          case ha15 => (simp only [Act.put, List.setIfInBounds_toArray, List.set_cons_zero, List.set_cons_succ, i64_w, i32_w]; rfl)
                          refine pure_ (i := 17) (N := some 151) (v := undef) (a' := ?_) #[true, true, true, true, true, true, true, true, true, true, true, true, true, true, true, true, true, true, false, false, false, false, false, false, false, false, false, false, false, false, false] rfl rfl (by kernel_rfl) (fun _ _ _ h => h) (Or.inr ⟨by rfl, rfl⟩) ?ha16 ?hh16
                          case ha16 => (simp only [Act.put, List.setIfInBounds_toArray, List.set_cons_zero, List.set_cons_succ, i64_w, i32_w]; rfl)
                          refine pure_ (i := 18) (N := some 152) (v := undef) (a' := ?_) #[true, true, true, true, true, true, true, true, true, true, true, true, true, true, true, true, true, true, true, false, false, false, false, false, false, false, false, false, false, false, false] rfl rfl (by kernel_rfl) (fun _ _ _ h => h) (Or.inr ⟨by rfl, rfl⟩) ?ha17 ?hh17
                          case ha17 => (simp only [Act.put, List.setIfInBounds_toArray, List.set_cons_zero, List.set_cons_succ, i64_w, i32_w]; rfl)
                          refine pure_ (i := 19) (N := some 153) (v := undef) (a' := ?_) #[true, true, true, true, true, true, true, true, true, true, true, true, true, true, true, true, true, true, true, true, false, false, false, false, false, false, false, false, false, false, false] rfl rfl (by kernel_rfl) (fun _ _ _ h => h) (Or.inr ⟨by rfl, rfl⟩) ?ha18 ?hh18
                          case ha18 => (simp only [Act.put, List.setIfInBounds_toArray, List.set_cons_zero, List.set_cons_succ, i64_w, i32_w]; rfl)
                          refine pure_ (i := 20) (N := some 154) (v := undef) (a' := ?_) #[true, true, true, true, true, true, true, true, true, true, true, true, true, true, true, true, true, true, true, true, true, false, false, false, false, false, false, false, false, false, false] rfl rfl (by kernel_rfl) (fun _ _ _ h => h) (Or.inr ⟨by rfl, rfl⟩) ?ha19 ?hh19
                          case ha19 => (simp only [Act.put, List.setIfInBounds_toArray, List.set_cons_zero, List.set_cons_succ, i64_w, i32_w]; rfl)
                          refine pure_ (i := 21) (N := some 155) (v := undef) (a' := ?_) #[true, true, true, true, true, true, true, true, true, true, true, true, true, true, true, true, true, true, true, true, true, true, false, false, false, false, false, false, false, false, false] rfl rfl (by kernel_rfl) (fun _ _ _ h => h) (Or.inr ⟨by rfl, rfl⟩) ?ha20 ?hh20
                          case ha20 => (simp only [Act.put, List.setIfInBounds_toArray, List.set_cons_zero, List.set_cons_succ, i64_w, i32_w]; rfl)
                          refine pure_ (i := 22) (N := some 156) (v := undef) (a' := ?_) #[true, true, true, true, true, true, true, true, true, true, true, true, true, true, true, true, true, true, true, true, true, true, true, false, false, false, false, false, false, false, false] rfl rfl (by kernel_rfl) (fun _ _ _ h => h) (Or.inr ⟨by rfl, rfl⟩) ?ha21 ?hh21
                          case ha21 => (simp only [Act.put, List.setIfInBounds_toArray, List.set_cons_zero, List.set_cons_succ, i64_w, i32_w]; rfl)
                          refine pure_ (i := 23) (N := some 157) (v := undef) (a' := ?_) #[true, true, true, true, true, true, true, true, true, true, true, true, true, true, true, true, true, true, true, true, true, true, true, true, false, false, false, false, false, false, false] rfl rfl (by kernel_rfl) (fun _ _ _ h => h) (Or.inr ⟨by rfl, rfl⟩) ?ha22 ?hh22
                          case ha22 => (simp only [Act.put, List.setIfInBounds_toArray, List.set_cons_zero, List.set_cons_succ, i64_w, i32_w]; rfl)
                          refine pure_ (i := 24) (N := some 158) (v := undef) (a' := ?_) #[true, true, true, true, true, true, true, true, true, true, true, true, true, true, true, true, true, true, true, true, true, true, true, true, true, false, false, false, false, false, false] rfl rfl (by kernel_rfl) (fun _ _ _ h => h) (Or.inr ⟨by rfl, rfl⟩) ?ha23 ?hh23
                          case ha23 => (simp only [Act.put, List.setIfInBounds_toArray, List.set_cons_zero, List.set_cons_succ, i64_w, i32_w]; rfl)
                          refine pure_ (i := 25) (N := some 159) (v := ?_) (a' := ?_) #[true, true, true, true, true, true, true, true, true, true, true, true, true, true, true, true, true, true, true, true, true, true, true, true, true, true, false, false, false, false, false] rfl rfl (by kernel_rfl) (fun _ _ _ h => h) (Or.inl ⟨by rfl, ?_⟩) ?_ ?_
                          rotate_left
                          · intro w'
                            go_simp
                            with_reducible rfl
                          rotate_left
                          · simp only [Act.put, List.setIfInBounds_toArray, List.set_cons_zero, List.set_cons_succ, i64_w, i32_w]
                            rfl
                          refine pure_ (i := 26) (N := some 160) (v := ?_) (a' := ?_) #[true, true, true, true, true, true, true, true, true, true, true, true, true, true, true, true, true, true, true, true, true, true, true, true, true, true, true, false, false, false, false] rfl rfl (by kernel_rfl) (fun _ _ _ h => h) (Or.inl ⟨by rfl, ?_⟩) ?_ ?_
                          rotate_left
                          · intro w'
                            go_simp
                            with_reducible rfl
                          rotate_left
                          · simp only [Act.put, List.setIfInBounds_toArray, List.set_cons_zero, List.set_cons_succ, i64_w, i32_w]
                            rfl
                          refine pure_ (i := 27) (N := some 161) (v := ?_) (a' := ?_) #[true, true, true, true, true, true, true, true, true, true, true, true, true, true, true, true, true, true, true, true, true, true, true, true, true, true, true, true, false, false, false] rfl rfl (by kernel_rfl) (fun _ _ _ h => h) (Or.inl ⟨by rfl, ?_⟩) ?_ ?_
                          rotate_left
                          · intro w'
                            go_simp
                            with_reducible rfl
                          rotate_left
                          · simp only [Act.put, List.setIfInBounds_toArray, List.set_cons_zero, List.set_cons_succ, i64_w, i32_w]
                            rfl
                          refine one_ (i := 28) (N := some 162) #[true, true, true, true, true, true, true, true, true, true, true, true, true, true, true, true, true, true, true, true, true, true, true, true, true, true, true, true, true, false, false] rfl rfl (by kernel_rfl) (by decide) (fun K hK => ?_)
                          refine goes_ Try.func9 (by kernel_rfl) rfl #[] (by rfl) rfl rfl (by (try simp only [List.map_toArray, List.map_cons, List.map_nil]); first | done | rfl) ?_
                          with_reducible refine (alive_any _).mono ?_
                          rintro e_ w163 ⟨rfl, hb163⟩
                          refine ⟨_, rfl, ?_⟩
                          have HB163 := Aside0.mk hb163
                          clear hb163
                          refine hK.out _ _ trivial (fun hHeld => ?_)
                          clear hK K
                          refine norm_ (a' := ?_) ?_ ?_
                          rotate_left
                          · show Act.put _ (some 162) _ = _
                            simp only [Act.put, List.setIfInBounds_toArray, List.set_cons_zero, List.set_cons_succ, i64_w, i32_w]
                            rfl
                          refine pure_ (i := 29) (N := some 163) (v := ?_) (a' := ?_) #[true, true, true, true, true, true, true, true, true, true, true, true, true, true, true, true, true, true, true, true, true, true, true, true, true, true, true, true, true, true, false] rfl rfl (by kernel_rfl) (fun _ _ _ h => h) (Or.inl ⟨by rfl, ?_⟩) ?_ ?_
                          rotate_left
                          · intro w'
                            go_simp
                            with_reducible rfl
                          rotate_left
                          · simp only [Act.put, List.setIfInBounds_toArray, List.set_cons_zero, List.set_cons_succ, i64_w, i32_w]
                            rfl
                          refine pure_ (i := 30) (N := some 6) (v := ?_) (a' := ?_) #[true, true, true, true, true, true, true, true, true, true, true, true, true, true, true, true, true, true, true, true, true, true, true, true, true, true, true, true, true, true, true] rfl rfl (by kernel_rfl) (fun _ _ _ h => h) (Or.inl ⟨by rfl, ?_⟩) ?_ ?_
                          rotate_left
                          · intro w'
                            go_simp
                            with_reducible rfl
                          rotate_left
                          · simp only [Act.put, List.setIfInBounds_toArray, List.set_cons_zero, List.set_cons_succ, i64_w, i32_w]
                            rfl
                          refine done_ (by kernel_rfl) ?_
                          go_wp2
                          go_ret
                          exact ⟨rfl, below_then (S135.out.drewN _).below (S135.out.drewN _).below.size HB163.out⟩
                        · have r1 : decide (2 ≤ a) = true := decide_eq_true (by omega)
                          have r3 : decide ((2 : Int) ≤ (a : Int)) = true := decide_eq_true (by omega)
                          have r2 : decide (a < 6) = false := decide_eq_false (by omega)
                          have r4 : decide ((a : Int) < 6) = false := decide_eq_false (by omega)
                          clear hmid hlo HPR hE0
                          go_wp2_with (first
                            | (go_at_call 13; (with_reducible refine (HP.out _ HCC.out).mono ?_); rintro e_ w131 ⟨A131, c131, rfl, hc131, hC131, hb131⟩; have S131 := Aside0.mk (S19.out.next hb131); have H131 := Aside0.mk hc131; have C131 := Aside0.mk hC131; clear hc131 hC131 hb131))
                          refine start_ (n := 31) (S := fun _ => True) (ds := []) #[false, false, false, false, false, false, false, false, false, false, false, false, false, false, false, false, false, false, false, false, false, false, false, false, false, false, false, false, false, false, false] (by kernel_rfl) rfl rfl trivial (fun hHeld => ?_)
                          refine pure_ (i := 0) (N := some 134) (v := ?_) (a' := ?_) #[true, false, false, false, false, false, false, false, false, false, false, false, false, false, false, false, false, false, false, false, false, false, false, false, false, false, false, false, false, false, false] rfl rfl (by kernel_rfl) (fun _ _ _ h => h) (Or.inl ⟨by rfl, ?_⟩) ?_ ?_
                          rotate_left
                          · intro w'
                            go_simp
                            with_reducible rfl
                          rotate_left
                          · simp only [Act.put, List.setIfInBounds_toArray, List.set_cons_zero, List.set_cons_succ, i64_w, i32_w]
                            rfl
                          refine pure_ (i := 2) (N := some 136) (v := ?_) (a' := ?_) #[true, false, true, false, false, false, false, false, false, false, false, false, false, false, false, false, false, false, false, false, false, false, false, false, false, false, false, false, false, false, false] rfl rfl (by kernel_rfl) (fun _ _ _ h => h) (Or.inl ⟨by rfl, ?_⟩) ?_ ?_
                          rotate_left
                          · intro w'
                            go_simp
                            with_reducible rfl
                          rotate_left
                          · simp only [Act.put, List.setIfInBounds_toArray, List.set_cons_zero, List.set_cons_succ, i64_w, i32_w]
                            rfl
                          refine pure_ (i := 3) (N := some 137) (v := ?_) (a' := ?_) #[true, false, true, true, false, false, false, false, false, false, false, false, false, false, false, false, false, false, false, false, false, false, false, false, false, false, false, false, false, false, false] rfl rfl (by kernel_rfl) (fun _ _ _ h => h) (Or.inl ⟨by rfl, ?_⟩) ?_ ?_
                          rotate_left
                          · intro w'
                            go_simp
                            with_reducible rfl
                          rotate_left
                          · simp only [Act.put, List.setIfInBounds_toArray, List.set_cons_zero, List.set_cons_succ, i64_w, i32_w]
                            rfl
                          refine pure_ (i := 4) (N := some 138) (v := ?_) (a' := ?_) #[true, false, true, true, true, false, false, false, false, false, false, false, false, false, false, false, false, false, false, false, false, false, false, false, false, false, false, false, false, false, false] rfl rfl (by kernel_rfl) (fun _ _ _ h => h) (Or.inl ⟨by rfl, ?_⟩) ?_ ?_
                          rotate_left
                          · intro w'
                            go_simp
                            with_reducible rfl
                          rotate_left
                          · simp only [Act.put, List.setIfInBounds_toArray, List.set_cons_zero, List.set_cons_succ, i64_w, i32_w]
                            rfl
                          refine one_ (i := 1) (N := some 135) #[true, true, true, true, true, false, false, false, false, false, false, false, false, false, false, false, false, false, false, false, false, false, false, false, false, false, false, false, false, false, false] rfl rfl (by kernel_rfl) (by decide) (fun K hK => ?_)
                          refine goes_ Try.func17 (by kernel_rfl) rfl #[.slice A131 mi.length c131] (by rfl) rfl rfl (by (try simp only [List.map_toArray, List.map_cons, List.map_nil]); first | done | rfl) ?_
                          with_reducible refine (back_C _ A131 c131 mi H131.out (Kd.C_below C131.out (by ((repeat (first | (with_reducible exact Below.refl _ _) | (with_reducible apply below_drew) | (with_reducible apply pw_below_drewN) | (with_reducible apply below_alloc))); (first | done | fail "not there")))) (by have := HMIL.out; omega) lt HMI.out).mono ?_
                          rintro e_ w135 ⟨A135, c135, rfl, hc135, hC135, hb135⟩
                          refine ⟨_, rfl, ?_⟩
                          have S135 := Aside0.mk ((S131.out.next (by ((repeat (first | (with_reducible exact Below.refl _ _) | (with_reducible apply below_drew) | (with_reducible apply pw_below_drewN) | (with_reducible apply below_alloc))); (first | done | fail "not there")))).next hb135)
                          have H135 := Aside0.mk hc135
                          have C135 := Aside0.mk hC135
                          clear hc135 hC135 hb135
                          refine hK.out _ _ trivial (fun hHeld => ?_)
                          clear hK K
                          refine norm_ (a' := ?_) ?_ ?_
                          rotate_left
                          · show Act.put _ (some 135) _ = _
                            simp only [Act.put, List.setIfInBounds_toArray, List.set_cons_zero, List.set_cons_succ, i64_w, i32_w]
                            rfl
                          refine one_ (i := 5) (N := some 139) #[true, true, true, true, true, true, false, false, false, false, false, false, false, false, false, false, false, false, false, false, false, false, false, false, false, false, false, false, false, false, false] rfl rfl (by kernel_rfl) (by decide) (fun K hK => ?_)
                          refine goes_ Try.func16 (by kernel_rfl) rfl #[.slice A135 lt.length c135, .slice A0 i c0] (by rfl) rfl rfl (by (try simp only [List.map_toArray, List.map_cons, List.map_nil]); first | done | rfl) ?_
                          with_reducible refine (HSA.out _ A135 c135 S135.out.below H135.out C135.out).mono ?_
                          rintro e_ w139 ⟨rfl, m139, rfl⟩
                          refine ⟨_, rfl, ?_⟩
                          refine hK.out _ _ trivial (fun hHeld => ?_)
                          clear hK K
                          refine norm_ (a' := ?_) ?_ ?_
                          rotate_left
                          · show Act.put _ (some 139) _ = _
                            simp only [Act.put, List.setIfInBounds_toArray, List.set_cons_zero, List.set_cons_succ, i64_w, i32_w]
                            rfl
                          refine pure_ (i := 6) (N := some 140) (v := ?_) (a' := ?_) #[true, true, true, true, true, true, true, false, false, false, false, false, false, false, false, false, false, false, false, false, false, false, false, false, false, false, false, false, false, false, false] rfl rfl (by kernel_rfl) (fun _ _ _ h => h) (Or.inl ⟨by rfl, ?_⟩) ?_ ?_
                          rotate_left
                          · intro w'
                            go_simp
                            with_reducible rfl
                          rotate_left
                          · simp only [Act.put, List.setIfInBounds_toArray, List.set_cons_zero, List.set_cons_succ, i64_w, i32_w]
                            rfl
                          refine pure_ (i := 7) (N := some 141) (v := ?_) (a' := ?_) #[true, true, true, true, true, true, true, true, false, false, false, false, false, false, false, false, false, false, false, false, false, false, false, false, false, false, false, false, false, false, false] rfl rfl (by kernel_rfl) (fun _ _ _ h => h) (Or.inl ⟨by rfl, ?_⟩) ?_ ?_
                          rotate_left
                          · intro w'
                            go_simp
                            with_reducible rfl
                          rotate_left
                          · simp only [Act.put, List.setIfInBounds_toArray, List.set_cons_zero, List.set_cons_succ, i64_w, i32_w]
                            rfl
                          refine pure_ (i := 8) (N := some 142) (v := ?_) (a' := ?_) #[true, true, true, true, true, true, true, true, true, false, false, false, false, false, false, false, false, false, false, false, false, false, false, false, false, false, false, false, false, false, false] rfl rfl (by kernel_rfl) (fun _ _ _ h => h) (Or.inl ⟨by rfl, ?_⟩) ?_ ?_
                          rotate_left
                          · intro w'
                            go_simp
                            with_reducible rfl
                          rotate_left
                          · simp only [Act.put, List.setIfInBounds_toArray, List.set_cons_zero, List.set_cons_succ, i64_w, i32_w]
                            rfl
                          refine pure_ (i := 9) (N := some 143) (v := ?_) (a' := ?_) #[true, true, true, true, true, true, true, true, true, true, false, false, false, false, false, false, false, false, false, false, false, false, false, false, false, false, false, false, false, false, false] rfl rfl (by kernel_rfl) (fun _ _ _ h => h) (Or.inl ⟨by rfl, ?_⟩) ?_ ?_
                          rotate_left
                          · intro w'
                            go_simp
                            with_reducible rfl
                          rotate_left
                          · simp only [Act.put, List.setIfInBounds_toArray, List.set_cons_zero, List.set_cons_succ, i64_w, i32_w]
                            rfl
                          refine pure_ (i := 10) (N := some 144) (v := ?_) (a' := ?_) #[true, true, true, true, true, true, true, true, true, true, true, false, false, false, false, false, false, false, false, false, false, false, false, false, false, false, false, false, false, false, false] rfl rfl (by kernel_rfl) (fun _ _ _ h => h) (Or.inl ⟨by rfl, ?_⟩) ?_ ?_
                          rotate_left
                          · intro w'
                            go_simp
                            with_reducible rfl
                          rotate_left
                          · simp only [Act.put, List.setIfInBounds_toArray, List.set_cons_zero, List.set_cons_succ, i64_w, i32_w]
                            rfl
                          refine pure_ (i := 11) (N := some 145) (v := ?_) (a' := ?_) #[true, true, true, true, true, true, true, true, true, true, true, true, false, false, false, false, false, false, false, false, false, false, false, false, false, false, false, false, false, false, false] rfl rfl (by kernel_rfl) (fun _ _ _ h => h) (Or.inl ⟨by rfl, ?_⟩) ?_ ?_
                          rotate_left
                          · intro w'
                            go_simp
                            with_reducible rfl
                          rotate_left
                          · simp only [Act.put, List.setIfInBounds_toArray, List.set_cons_zero, List.set_cons_succ, i64_w, i32_w]
                            rfl
                          refine pure_ (i := 12) (N := some 146) (v := ?_) (a' := ?_) #[true, true, true, true, true, true, true, true, true, true, true, true, true, false, false, false, false, false, false, false, false, false, false, false, false, false, false, false, false, false, false] rfl rfl (by kernel_rfl) (fun _ _ _ h => h) (Or.inl ⟨by rfl, ?_⟩) ?_ ?_
                          rotate_left
                          · intro w'
                            go_simp
                            with_reducible rfl
                          rotate_left
                          · simp only [Act.put, List.setIfInBounds_toArray, List.set_cons_zero, List.set_cons_succ, i64_w, i32_w]
                            rfl
                          refine pure_ (i := 13) (N := some 147) (v := ?_) (a' := ?_) #[true, true, true, true, true, true, true, true, true, true, true, true, true, true, false, false, false, false, false, false, false, false, false, false, false, false, false, false, false, false, false] rfl rfl (by kernel_rfl) (fun _ _ _ h => h) (Or.inl ⟨by rfl, ?_⟩) ?_ ?_
                          rotate_left
                          · intro w'
                            go_simp
                            with_reducible rfl
                          rotate_left
                          · simp only [Act.put, List.setIfInBounds_toArray, List.set_cons_zero, List.set_cons_succ, i64_w, i32_w]
                            rfl
                          refine pure_ (i := 14) (N := some 148) (v := undef) (a' := ?_) #[true, true, true, true, true, true, true, true, true, true, true, true, true, true, true, false, false, false, false, false, false, false, false, false, false, false, false, false, false, false, false] rfl rfl (by kernel_rfl) (fun _ _ _ h => h) (Or.inr ⟨by rfl, rfl⟩) ?ha41 ?hh41
                          case ha41 => (simp only [Act.put, List.setIfInBounds_toArray, List.set_cons_zero, List.set_cons_succ, i64_w, i32_w]; rfl)
                          refine pure_ (i := 15) (N := some 149) (v := undef) (a' := ?_) #[true, true, true, true, true, true, true, true, true, true, true, true, true, true, true, true, false, false, false, false, false, false, false, false, false, false, false, false, false, false, false] rfl rfl (by kernel_rfl) (fun _ _ _ h => h) (Or.inr ⟨by rfl, rfl⟩) ?ha42 ?hh42
                          case ha42 => (simp only [Act.put, List.setIfInBounds_toArray, List.set_cons_zero, List.set_cons_succ, i64_w, i32_w]; rfl)
                          refine pure_ (i := 16) (N := some 150) (v := undef) (a' := ?_) #[true, true, true, true, true, true, true, true, true, true, true, true, true, true, true, true, true, false, false, false, false, false, false, false, false, false, false, false, false, false, false] rfl rfl (by kernel_rfl) (fun _ _ _ h => h) (Or.inr ⟨by rfl, rfl⟩) ?ha43 ?hh43
                          case ha43 => (simp only [Act.put, List.setIfInBounds_toArray, List.set_cons_zero, List.set_cons_succ, i64_w, i32_w]; rfl)
                          refine pure_ (i := 17) (N := some 151) (v := undef) (a' := ?_) #[true, true, true, true, true, true, true, true, true, true, true, true, true, true, true, true, true, true, false, false, false, false, false, false, false, false, false, false, false, false, false] rfl rfl (by kernel_rfl) (fun _ _ _ h => h) (Or.inr ⟨by rfl, rfl⟩) ?ha44 ?hh44
                          case ha44 => (simp only [Act.put, List.setIfInBounds_toArray, List.set_cons_zero, List.set_cons_succ, i64_w, i32_w]; rfl)
                          refine pure_ (i := 18) (N := some 152) (v := undef) (a' := ?_) #[true, true, true, true, true, true, true, true, true, true, true, true, true, true, true, true, true, true, true, false, false, false, false, false, false, false, false, false, false, false, false] rfl rfl (by kernel_rfl) (fun _ _ _ h => h) (Or.inr ⟨by rfl, rfl⟩) ?ha45 ?hh45
                          case ha45 => (simp only [Act.put, List.setIfInBounds_toArray, List.set_cons_zero, List.set_cons_succ, i64_w, i32_w]; rfl)
                          refine pure_ (i := 19) (N := some 153) (v := undef) (a' := ?_) #[true, true, true, true, true, true, true, true, true, true, true, true, true, true, true, true, true, true, true, true, false, false, false, false, false, false, false, false, false, false, false] rfl rfl (by kernel_rfl) (fun _ _ _ h => h) (Or.inr ⟨by rfl, rfl⟩) ?ha46 ?hh46
                          case ha46 => (simp only [Act.put, List.setIfInBounds_toArray, List.set_cons_zero, List.set_cons_succ, i64_w, i32_w]; rfl)
                          refine pure_ (i := 20) (N := some 154) (v := undef) (a' := ?_) #[true, true, true, true, true, true, true, true, true, true, true, true, true, true, true, true, true, true, true, true, true, false, false, false, false, false, false, false, false, false, false] rfl rfl (by kernel_rfl) (fun _ _ _ h => h) (Or.inr ⟨by rfl, rfl⟩) ?ha47 ?hh47
                          case ha47 => (simp only [Act.put, List.setIfInBounds_toArray, List.set_cons_zero, List.set_cons_succ, i64_w, i32_w]; rfl)
                          refine pure_ (i := 21) (N := some 155) (v := undef) (a' := ?_) #[true, true, true, true, true, true, true, true, true, true, true, true, true, true, true, true, true, true, true, true, true, true, false, false, false, false, false, false, false, false, false] rfl rfl (by kernel_rfl) (fun _ _ _ h => h) (Or.inr ⟨by rfl, rfl⟩) ?ha48 ?hh48
                          case ha48 => (simp only [Act.put, List.setIfInBounds_toArray, List.set_cons_zero, List.set_cons_succ, i64_w, i32_w]; rfl)
                          refine pure_ (i := 22) (N := some 156) (v := undef) (a' := ?_) #[true, true, true, true, true, true, true, true, true, true, true, true, true, true, true, true, true, true, true, true, true, true, true, false, false, false, false, false, false, false, false] rfl rfl (by kernel_rfl) (fun _ _ _ h => h) (Or.inr ⟨by rfl, rfl⟩) ?ha49 ?hh49
                          case ha49 => (simp only [Act.put, List.setIfInBounds_toArray, List.set_cons_zero, List.set_cons_succ, i64_w, i32_w]; rfl)
                          refine pure_ (i := 23) (N := some 157) (v := undef) (a' := ?_) #[true, true, true, true, true, true, true, true, true, true, true, true, true, true, true, true, true, true, true, true, true, true, true, true, false, false, false, false, false, false, false] rfl rfl (by kernel_rfl) (fun _ _ _ h => h) (Or.inr ⟨by rfl, rfl⟩) ?ha50 ?hh50
                          case ha50 => (simp only [Act.put, List.setIfInBounds_toArray, List.set_cons_zero, List.set_cons_succ, i64_w, i32_w]; rfl)
                          refine pure_ (i := 24) (N := some 158) (v := undef) (a' := ?_) #[true, true, true, true, true, true, true, true, true, true, true, true, true, true, true, true, true, true, true, true, true, true, true, true, true, false, false, false, false, false, false] rfl rfl (by kernel_rfl) (fun _ _ _ h => h) (Or.inr ⟨by rfl, rfl⟩) ?ha51 ?hh51
                          case ha51 => (simp only [Act.put, List.setIfInBounds_toArray, List.set_cons_zero, List.set_cons_succ, i64_w, i32_w]; rfl)
                          refine pure_ (i := 25) (N := some 159) (v := ?_) (a' := ?_) #[true, true, true, true, true, true, true, true, true, true, true, true, true, true, true, true, true, true, true, true, true, true, true, true, true, true, false, false, false, false, false] rfl rfl (by kernel_rfl) (fun _ _ _ h => h) (Or.inl ⟨by rfl, ?_⟩) ?_ ?_
                          rotate_left
                          · intro w'
                            go_simp
                            with_reducible rfl
                          rotate_left
                          · simp only [Act.put, List.setIfInBounds_toArray, List.set_cons_zero, List.set_cons_succ, i64_w, i32_w]
                            rfl
                          refine pure_ (i := 26) (N := some 160) (v := ?_) (a' := ?_) #[true, true, true, true, true, true, true, true, true, true, true, true, true, true, true, true, true, true, true, true, true, true, true, true, true, true, true, false, false, false, false] rfl rfl (by kernel_rfl) (fun _ _ _ h => h) (Or.inl ⟨by rfl, ?_⟩) ?_ ?_
                          rotate_left
                          · intro w'
                            go_simp
                            with_reducible rfl
                          rotate_left
                          · simp only [Act.put, List.setIfInBounds_toArray, List.set_cons_zero, List.set_cons_succ, i64_w, i32_w]
                            rfl
                          refine pure_ (i := 27) (N := some 161) (v := ?_) (a' := ?_) #[true, true, true, true, true, true, true, true, true, true, true, true, true, true, true, true, true, true, true, true, true, true, true, true, true, true, true, true, false, false, false] rfl rfl (by kernel_rfl) (fun _ _ _ h => h) (Or.inl ⟨by rfl, ?_⟩) ?_ ?_
                          rotate_left
                          · intro w'
                            go_simp
                            with_reducible rfl
                          rotate_left
                          · simp only [Act.put, List.setIfInBounds_toArray, List.set_cons_zero, List.set_cons_succ, i64_w, i32_w]
                            rfl
                          refine one_ (i := 28) (N := some 162) #[true, true, true, true, true, true, true, true, true, true, true, true, true, true, true, true, true, true, true, true, true, true, true, true, true, true, true, true, true, false, false] rfl rfl (by kernel_rfl) (by decide) (fun K hK => ?_)
                          refine goes_ Try.func9 (by kernel_rfl) rfl #[] (by rfl) rfl rfl (by (try simp only [List.map_toArray, List.map_cons, List.map_nil]); first | done | rfl) ?_
                          with_reducible refine (alive_any _).mono ?_
                          rintro e_ w163 ⟨rfl, hb163⟩
                          refine ⟨_, rfl, ?_⟩
                          have HB163 := Aside0.mk hb163
                          clear hb163
                          refine hK.out _ _ trivial (fun hHeld => ?_)
                          clear hK K
                          refine norm_ (a' := ?_) ?_ ?_
                          rotate_left
                          · show Act.put _ (some 162) _ = _
                            simp only [Act.put, List.setIfInBounds_toArray, List.set_cons_zero, List.set_cons_succ, i64_w, i32_w]
                            rfl
                          refine pure_ (i := 29) (N := some 163) (v := ?_) (a' := ?_) #[true, true, true, true, true, true, true, true, true, true, true, true, true, true, true, true, true, true, true, true, true, true, true, true, true, true, true, true, true, true, false] rfl rfl (by kernel_rfl) (fun _ _ _ h => h) (Or.inl ⟨by rfl, ?_⟩) ?_ ?_
                          rotate_left
                          · intro w'
                            go_simp
                            with_reducible rfl
                          rotate_left
                          · simp only [Act.put, List.setIfInBounds_toArray, List.set_cons_zero, List.set_cons_succ, i64_w, i32_w]
                            rfl
                          refine pure_ (i := 30) (N := some 6) (v := ?_) (a' := ?_) #[true, true, true, true, true, true, true, true, true, true, true, true, true, true, true, true, true, true, true, true, true, true, true, true, true, true, true, true, true, true, true] rfl rfl (by kernel_rfl) (fun _ _ _ h => h) (Or.inl ⟨by rfl, ?_⟩) ?_ ?_
                          rotate_left
                          · intro w'
                            go_simp
                            with_reducible rfl
                          rotate_left
                          · simp only [Act.put, List.setIfInBounds_toArray, List.set_cons_zero, List.set_cons_succ, i64_w, i32_w]
                            rfl
                          refine done_ (by kernel_rfl) ?_
                          go_wp2
                          go_ret
                          exact ⟨rfl, below_then (S135.out.drewN _).below (S135.out.drewN _).below.size HB163.out⟩
                    · obtain ⟨j, hij⟩ : ∃ j, i = j + 1 := ⟨i - 1, by omega⟩
                      have HJ : Aside0 (j + 1 < l0.length) := ⟨by have := HIL.out; omega⟩
                      have HEj : Aside0 (E = endJ l0 (j + 1)) := ⟨by rw [HE.out, hij]⟩
                      have q6 : (j : Int) < (ee.length : Int) := by have := HEN.out; have := HJ.out; omega
                      have q6n : j < ee.length := by omega
                      have q60 : (0 : Int) ≤ (j : Int) := by omega
                      have q9 : decide (j < ee.length) = true := decide_eq_true q6n
                      have hj20 : j < 20 := by omega
                      obtain ⟨ad', ead, hxj⟩ := Kd.at_int (Kd.R_reads' S19.out.e).2.2 (j : Int) q60 q6
                      cases ead
                      rw [Int.toNat_natCast, HEE.out, endsJ_at l0 l0.length j (by have := HJ.out; omega), ← HEj.out] at hxj
                      have p1 : decide ((0 : Int) < (i : Int)) = true := decide_eq_true (by omega)
                      have p1n : decide (0 < i) = true := decide_eq_true (by omega)
                      have p2 : IntKind.i64.wrap ((i : Int) - 1) = (j : Int) := (IntWalk.i64_in _ (by omega)).trans (by omega)
                      have p4 : ((i : Int) == 0) = false := by rw [beq_eq_false_iff_ne]; omega
                      have HIJ := Aside0.mk hij
                      clear hij hz
                      by_cases hmid : 2 ≤ a - E ∧ a - E < 6
                      · have r3 : decide ((2 : Int) ≤ (a : Int) - (E : Int)) = true := decide_eq_true (by omega)
                        have r4 : decide ((a : Int) - (E : Int) < 6) = true := decide_eq_true (by omega)
                        clear hmid HPR
                        go_wp2_with (first
                          | (go_at_call 9; (with_reducible refine (alive_any _).mono ?_); rintro e_ w83 ⟨rfl, hb83⟩; have HB83 := Aside0.mk hb83; clear hb83))
                        go_ret
                        exact ⟨rfl, below_then S19.out.below S19.out.below.size HB83.out⟩
                      · have HP := Aside0.mk (HPR (by omega))
                        by_cases hlo : a - E < 2
                        · have r3 : decide ((2 : Int) ≤ (a : Int) - (E : Int)) = false := decide_eq_false (by omega)
                          clear hmid hlo HPR
                          go_wp2_with (first
                            | (go_at_call 13; (with_reducible refine (HP.out _ HCC.out).mono ?_); rintro e_ w131 ⟨A131, c131, rfl, hc131, hC131, hb131⟩; have S131 := Aside0.mk (S19.out.next hb131); have H131 := Aside0.mk hc131; have C131 := Aside0.mk hC131; have K131 := Aside0.mk (pw_cell_below hb131 hxj); clear hc131 hC131 hb131))
                          refine start_ (n := 31) (S := fun w' => w'.cell? (ad.add j) = some (.int .i64 (E : Int))) (ds := []) #[false, false, false, false, false, false, false, false, false, false, false, false, false, false, false, false, false, false, false, false, false, false, false, false, false, false, false, false, false, false, false] (by kernel_rfl) rfl rfl K131.out (fun hHeld => ?_)
                          refine pure_ (i := 0) (N := some 134) (v := ?_) (a' := ?_) #[true, false, false, false, false, false, false, false, false, false, false, false, false, false, false, false, false, false, false, false, false, false, false, false, false, false, false, false, false, false, false] rfl rfl (by kernel_rfl) (fun _ _ _ h => h) (Or.inl ⟨by rfl, ?_⟩) ?_ ?_
                          rotate_left
                          · intro w'
                            go_simp
                            with_reducible rfl
                          rotate_left
                          · simp only [Act.put, List.setIfInBounds_toArray, List.set_cons_zero, List.set_cons_succ, i64_w, i32_w]
                            rfl
                          refine pure_ (i := 2) (N := some 136) (v := ?_) (a' := ?_) #[true, false, true, false, false, false, false, false, false, false, false, false, false, false, false, false, false, false, false, false, false, false, false, false, false, false, false, false, false, false, false] rfl rfl (by kernel_rfl) (fun _ _ _ h => h) (Or.inl ⟨by rfl, ?_⟩) ?_ ?_
                          rotate_left
                          · intro w'
                            go_simp
                            with_reducible rfl
                          rotate_left
                          · simp only [Act.put, List.setIfInBounds_toArray, List.set_cons_zero, List.set_cons_succ, i64_w, i32_w]
                            rfl
                          refine pure_ (i := 3) (N := some 137) (v := ?_) (a' := ?_) #[true, false, true, true, false, false, false, false, false, false, false, false, false, false, false, false, false, false, false, false, false, false, false, false, false, false, false, false, false, false, false] rfl rfl (by kernel_rfl) (fun _ _ _ h => h) (Or.inl ⟨by rfl, ?_⟩) ?_ ?_
                          rotate_left
                          · intro w'
                            go_simp
                            with_reducible rfl
                          rotate_left
                          · simp only [Act.put, List.setIfInBounds_toArray, List.set_cons_zero, List.set_cons_succ, i64_w, i32_w]
                            rfl
                          refine pure_ (i := 4) (N := some 138) (v := ?_) (a' := ?_) #[true, false, true, true, true, false, false, false, false, false, false, false, false, false, false, false, false, false, false, false, false, false, false, false, false, false, false, false, false, false, false] rfl rfl (by kernel_rfl) (fun _ _ _ h => h) (Or.inl ⟨by rfl, ?_⟩) ?_ ?_
                          rotate_left
                          · intro w'
                            go_simp
                            with_reducible rfl
                          rotate_left
                          · simp only [Act.put, List.setIfInBounds_toArray, List.set_cons_zero, List.set_cons_succ, i64_w, i32_w]
                            rfl
                          refine one_ (i := 1) (N := some 135) #[true, true, true, true, true, false, false, false, false, false, false, false, false, false, false, false, false, false, false, false, false, false, false, false, false, false, false, false, false, false, false] rfl rfl (by kernel_rfl) (by decide) (fun K hK => ?_)
                          refine goes_ Try.func17 (by kernel_rfl) rfl #[.slice A131 mi.length c131] (by rfl) rfl rfl (by (try simp only [List.map_toArray, List.map_cons, List.map_nil]); first | done | rfl) ?_
                          with_reducible refine (back_C _ A131 c131 mi H131.out (Kd.C_below C131.out (by ((repeat (first | (with_reducible exact Below.refl _ _) | (with_reducible apply below_drew) | (with_reducible apply pw_below_drewN) | (with_reducible apply below_alloc))); (first | done | fail "not there")))) (by have := HMIL.out; omega) lt HMI.out).mono ?_
                          rintro e_ w135 ⟨A135, c135, rfl, hc135, hC135, hb135⟩
                          refine ⟨_, rfl, ?_⟩
                          have S135 := Aside0.mk ((S131.out.next (by ((repeat (first | (with_reducible exact Below.refl _ _) | (with_reducible apply below_drew) | (with_reducible apply pw_below_drewN) | (with_reducible apply below_alloc))); (first | done | fail "not there")))).next hb135)
                          have H135 := Aside0.mk hc135
                          have C135 := Aside0.mk hC135
                          have K135 := Aside0.mk (pw_cell_below hb135 K131.out)
                          clear hc135 hC135 hb135
                          refine hK.out _ _ K135.out (fun hHeld => ?_)
                          clear hK K
                          refine norm_ (a' := ?_) ?_ ?_
                          rotate_left
                          · show Act.put _ (some 135) _ = _
                            simp only [Act.put, List.setIfInBounds_toArray, List.set_cons_zero, List.set_cons_succ, i64_w, i32_w]
                            rfl
                          refine one_ (i := 5) (N := some 139) #[true, true, true, true, true, true, false, false, false, false, false, false, false, false, false, false, false, false, false, false, false, false, false, false, false, false, false, false, false, false, false] rfl rfl (by kernel_rfl) (by decide) (fun K hK => ?_)
                          refine goes_ Try.func16 (by kernel_rfl) rfl #[.slice A135 lt.length c135, .slice A0 i c0] (by rfl) rfl rfl (by (try simp only [List.map_toArray, List.map_cons, List.map_nil]); first | done | rfl) ?_
                          with_reducible refine (HSA.out _ A135 c135 S135.out.below H135.out C135.out).mono ?_
                          rintro e_ w139 ⟨rfl, m139, rfl⟩
                          refine ⟨_, rfl, ?_⟩
                          refine hK.out _ _ K135.out (fun hHeld => ?_)
                          clear hK K
                          refine norm_ (a' := ?_) ?_ ?_
                          rotate_left
                          · show Act.put _ (some 139) _ = _
                            simp only [Act.put, List.setIfInBounds_toArray, List.set_cons_zero, List.set_cons_succ, i64_w, i32_w]
                            rfl
                          refine pure_ (i := 6) (N := some 140) (v := ?_) (a' := ?_) #[true, true, true, true, true, true, true, false, false, false, false, false, false, false, false, false, false, false, false, false, false, false, false, false, false, false, false, false, false, false, false] rfl rfl (by kernel_rfl) (fun _ _ _ h => h) (Or.inl ⟨by rfl, ?_⟩) ?_ ?_
                          rotate_left
                          · intro w'
                            go_simp
                            with_reducible rfl
                          rotate_left
                          · simp only [Act.put, List.setIfInBounds_toArray, List.set_cons_zero, List.set_cons_succ, i64_w, i32_w]
                            rfl
                          refine pure_ (i := 7) (N := some 141) (v := ?_) (a' := ?_) #[true, true, true, true, true, true, true, true, false, false, false, false, false, false, false, false, false, false, false, false, false, false, false, false, false, false, false, false, false, false, false] rfl rfl (by kernel_rfl) (fun _ _ _ h => h) (Or.inl ⟨by rfl, ?_⟩) ?_ ?_
                          rotate_left
                          · intro w'
                            go_simp
                            with_reducible rfl
                          rotate_left
                          · simp only [Act.put, List.setIfInBounds_toArray, List.set_cons_zero, List.set_cons_succ, i64_w, i32_w]
                            rfl
                          refine pure_ (i := 8) (N := some 142) (v := ?_) (a' := ?_) #[true, true, true, true, true, true, true, true, true, false, false, false, false, false, false, false, false, false, false, false, false, false, false, false, false, false, false, false, false, false, false] rfl rfl (by kernel_rfl) (fun _ _ _ h => h) (Or.inl ⟨by rfl, ?_⟩) ?_ ?_
                          rotate_left
                          · intro w'
                            go_simp
                            with_reducible rfl
                          rotate_left
                          · simp only [Act.put, List.setIfInBounds_toArray, List.set_cons_zero, List.set_cons_succ, i64_w, i32_w]
                            rfl
                          refine pure_ (i := 9) (N := some 143) (v := ?_) (a' := ?_) #[true, true, true, true, true, true, true, true, true, true, false, false, false, false, false, false, false, false, false, false, false, false, false, false, false, false, false, false, false, false, false] rfl rfl (by kernel_rfl) (fun _ _ _ h => h) (Or.inl ⟨by rfl, ?_⟩) ?_ ?_
                          rotate_left
                          · intro w'
                            go_simp
                            with_reducible rfl
                          rotate_left
                          · simp only [Act.put, List.setIfInBounds_toArray, List.set_cons_zero, List.set_cons_succ, i64_w, i32_w]
                            rfl
                          refine pure_ (i := 10) (N := some 144) (v := undef) (a' := ?_) #[true, true, true, true, true, true, true, true, true, true, true, false, false, false, false, false, false, false, false, false, false, false, false, false, false, false, false, false, false, false, false] rfl rfl (by kernel_rfl) (fun _ _ _ h => h) (Or.inr ⟨by rfl, rfl⟩) ?ha65 ?hh65
                          case ha65 => (simp only [Act.put, List.setIfInBounds_toArray, List.set_cons_zero, List.set_cons_succ, i64_w, i32_w]; rfl)
                          refine pure_ (i := 11) (N := some 145) (v := undef) (a' := ?_) #[true, true, true, true, true, true, true, true, true, true, true, true, false, false, false, false, false, false, false, false, false, false, false, false, false, false, false, false, false, false, false] rfl rfl (by kernel_rfl) (fun _ _ _ h => h) (Or.inr ⟨by rfl, rfl⟩) ?ha66 ?hh66
                          case ha66 => (simp only [Act.put, List.setIfInBounds_toArray, List.set_cons_zero, List.set_cons_succ, i64_w, i32_w]; rfl)
                          refine pure_ (i := 12) (N := some 146) (v := ?_) (a' := ?_) #[true, true, true, true, true, true, true, true, true, true, true, true, true, false, false, false, false, false, false, false, false, false, false, false, false, false, false, false, false, false, false] rfl rfl (by kernel_rfl) (fun _ _ _ h => h) (Or.inl ⟨by rfl, ?_⟩) ?_ ?_
                          rotate_left
                          · intro w'
                            go_simp
                            with_reducible rfl
                          rotate_left
                          · simp only [Act.put, List.setIfInBounds_toArray, List.set_cons_zero, List.set_cons_succ, i64_w, i32_w]
                            rfl
                          refine pure_ (i := 13) (N := some 147) (v := ?_) (a' := ?_) #[true, true, true, true, true, true, true, true, true, true, true, true, true, true, false, false, false, false, false, false, false, false, false, false, false, false, false, false, false, false, false] rfl rfl (by kernel_rfl) (fun _ _ _ h => h) (Or.inl ⟨by rfl, ?_⟩) ?_ ?_
                          rotate_left
                          · intro w'
                            go_simp
                            with_reducible rfl
                          rotate_left
                          · simp only [Act.put, List.setIfInBounds_toArray, List.set_cons_zero, List.set_cons_succ, i64_w, i32_w]
                            rfl
                          refine pure_ (i := 14) (N := some 148) (v := ?_) (a' := ?_) #[true, true, true, true, true, true, true, true, true, true, true, true, true, true, true, false, false, false, false, false, false, false, false, false, false, false, false, false, false, false, false] rfl rfl (by kernel_rfl) (fun _ _ _ h => h) (Or.inl ⟨by rfl, ?_⟩) ?_ ?_
                          rotate_left
                          · intro w'
                            go_simp
                            with_reducible rfl
                          rotate_left
                          · simp only [Act.put, List.setIfInBounds_toArray, List.set_cons_zero, List.set_cons_succ, i64_w, i32_w]
                            rfl
                          refine pure_ (i := 15) (N := some 149) (v := ?_) (a' := ?_) #[true, true, true, true, true, true, true, true, true, true, true, true, true, true, true, true, false, false, false, false, false, false, false, false, false, false, false, false, false, false, false] rfl rfl (by kernel_rfl) (fun _ _ _ h => h) (Or.inl ⟨by rfl, ?_⟩) ?_ ?_
                          rotate_left
                          · intro w'
                            go_simp
                            with_reducible rfl
                          rotate_left
                          · simp only [Act.put, List.setIfInBounds_toArray, List.set_cons_zero, List.set_cons_succ, i64_w, i32_w]
                            rfl
                          refine pure_ (i := 16) (N := some 150) (v := ?_) (a' := ?_) #[true, true, true, true, true, true, true, true, true, true, true, true, true, true, true, true, true, false, false, false, false, false, false, false, false, false, false, false, false, false, false] rfl rfl (by kernel_rfl) (fun _ _ _ h => h) (Or.inl ⟨by rfl, ?_⟩) ?_ ?_
                          rotate_left
                          · intro w'
                            go_simp
                            with_reducible rfl
                          rotate_left
                          · simp only [Act.put, List.setIfInBounds_toArray, List.set_cons_zero, List.set_cons_succ, i64_w, i32_w]
                            rfl
                          refine pure_ (i := 17) (N := some 151) (v := ?_) (a' := ?_) #[true, true, true, true, true, true, true, true, true, true, true, true, true, true, true, true, true, true, false, false, false, false, false, false, false, false, false, false, false, false, false] rfl rfl (by kernel_rfl) (fun _ _ _ h => h) (Or.inl ⟨by rfl, ?_⟩) ?_ ?_
                          rotate_left
                          · intro w'
                            go_simp
                            with_reducible rfl
                          rotate_left
                          · simp only [Act.put, List.setIfInBounds_toArray, List.set_cons_zero, List.set_cons_succ, i64_w, i32_w]
                            rfl
                          refine pure_ (i := 18) (N := some 152) (v := ?_) (a' := ?_) #[true, true, true, true, true, true, true, true, true, true, true, true, true, true, true, true, true, true, true, false, false, false, false, false, false, false, false, false, false, false, false] rfl rfl (by kernel_rfl) (fun _ _ _ h => h) (Or.inl ⟨by rfl, ?_⟩) ?_ ?_
                          rotate_left
                          · intro w'
                            go_simp
                            with_reducible rfl
                          rotate_left
                          · simp only [Act.put, List.setIfInBounds_toArray, List.set_cons_zero, List.set_cons_succ, i64_w, i32_w]
                            rfl
                          refine pure_ (i := 19) (N := some 153) (v := ?_) (a' := ?_) #[true, true, true, true, true, true, true, true, true, true, true, true, true, true, true, true, true, true, true, true, false, false, false, false, false, false, false, false, false, false, false] rfl rfl (by kernel_rfl) (fun _ _ _ h => h) (Or.inl ⟨by rfl, ?_⟩) ?_ ?_
                          rotate_left
                          · intro w'
                            go_simp
                            with_reducible rfl
                          rotate_left
                          · simp only [Act.put, List.setIfInBounds_toArray, List.set_cons_zero, List.set_cons_succ, i64_w, i32_w]
                            rfl
                          refine pure_ (i := 20) (N := some 154) (v := ?_) (a' := ?_) #[true, true, true, true, true, true, true, true, true, true, true, true, true, true, true, true, true, true, true, true, true, false, false, false, false, false, false, false, false, false, false] rfl rfl (by kernel_rfl) (fun _ _ _ h => h) (Or.inl ⟨by rfl, ?_⟩) ?_ ?_
                          rotate_left
                          · intro w'
                            go_simp
                            with_reducible rfl
                          rotate_left
                          · simp only [Act.put, List.setIfInBounds_toArray, List.set_cons_zero, List.set_cons_succ, i64_w, i32_w]
                            rfl
                          refine pure_ (i := 21) (N := some 155) (v := ?_) (a' := ?_) #[true, true, true, true, true, true, true, true, true, true, true, true, true, true, true, true, true, true, true, true, true, true, false, false, false, false, false, false, false, false, false] rfl rfl (by kernel_rfl) (fun _ _ _ h => h) (Or.inl ⟨by rfl, ?_⟩) ?_ ?_
                          rotate_left
                          · intro w'
                            go_simp
                            with_reducible rfl
                          rotate_left
                          · simp only [Act.put, List.setIfInBounds_toArray, List.set_cons_zero, List.set_cons_succ, i64_w, i32_w]
                            rfl
                          refine take_ (i := 22) (N := some 156) (v := ?_) (a' := ?_) #[true, true, true, true, true, true, true, true, true, true, true, true, true, true, true, true, true, true, true, true, true, true, true, false, false, false, false, false, false, false, false] rfl rfl (by kernel_rfl) (fun _ _ _ h => h) (Or.inl ⟨by rfl, ?_⟩) hHeld ?_ ?_
                          rotate_left
                          · intro w' s0
                            go_simp
                            with_reducible rfl
                          rotate_left
                          · simp only [Act.put, List.setIfInBounds_toArray, List.set_cons_zero, List.set_cons_succ, i64_w, i32_w]
                            rfl
                          refine pure_ (i := 23) (N := some 157) (v := ?_) (a' := ?_) #[true, true, true, true, true, true, true, true, true, true, true, true, true, true, true, true, true, true, true, true, true, true, true, true, false, false, false, false, false, false, false] rfl rfl (by kernel_rfl) (fun _ _ _ h => h) (Or.inl ⟨by rfl, ?_⟩) ?_ ?_
                          rotate_left
                          · intro w'
                            go_simp
                            with_reducible rfl
                          rotate_left
                          · simp only [Act.put, List.setIfInBounds_toArray, List.set_cons_zero, List.set_cons_succ, i64_w, i32_w]
                            rfl
                          refine pure_ (i := 24) (N := some 158) (v := ?_) (a' := ?_) #[true, true, true, true, true, true, true, true, true, true, true, true, true, true, true, true, true, true, true, true, true, true, true, true, true, false, false, false, false, false, false] rfl rfl (by kernel_rfl) (fun _ _ _ h => h) (Or.inl ⟨by rfl, ?_⟩) ?_ ?_
                          rotate_left
                          · intro w'
                            go_simp
                            with_reducible rfl
                          rotate_left
                          · simp only [Act.put, List.setIfInBounds_toArray, List.set_cons_zero, List.set_cons_succ, i64_w, i32_w]
                            rfl
                          refine pure_ (i := 25) (N := some 159) (v := ?_) (a' := ?_) #[true, true, true, true, true, true, true, true, true, true, true, true, true, true, true, true, true, true, true, true, true, true, true, true, true, true, false, false, false, false, false] rfl rfl (by kernel_rfl) (fun _ _ _ h => h) (Or.inl ⟨by rfl, ?_⟩) ?_ ?_
                          rotate_left
                          · intro w'
                            go_simp
                            with_reducible rfl
                          rotate_left
                          · simp only [Act.put, List.setIfInBounds_toArray, List.set_cons_zero, List.set_cons_succ, i64_w, i32_w]
                            rfl
                          refine pure_ (i := 26) (N := some 160) (v := ?_) (a' := ?_) #[true, true, true, true, true, true, true, true, true, true, true, true, true, true, true, true, true, true, true, true, true, true, true, true, true, true, true, false, false, false, false] rfl rfl (by kernel_rfl) (fun _ _ _ h => h) (Or.inl ⟨by rfl, ?_⟩) ?_ ?_
                          rotate_left
                          · intro w'
                            go_simp
                            with_reducible rfl
                          rotate_left
                          · simp only [Act.put, List.setIfInBounds_toArray, List.set_cons_zero, List.set_cons_succ, i64_w, i32_w]
                            rfl
                          refine pure_ (i := 27) (N := some 161) (v := ?_) (a' := ?_) #[true, true, true, true, true, true, true, true, true, true, true, true, true, true, true, true, true, true, true, true, true, true, true, true, true, true, true, true, false, false, false] rfl rfl (by kernel_rfl) (fun _ _ _ h => h) (Or.inl ⟨by rfl, ?_⟩) ?_ ?_
                          rotate_left
                          · intro w'
                            go_simp
                            with_reducible rfl
                          rotate_left
                          · simp only [Act.put, List.setIfInBounds_toArray, List.set_cons_zero, List.set_cons_succ, i64_w, i32_w]
                            rfl
                          refine one_ (i := 28) (N := some 162) #[true, true, true, true, true, true, true, true, true, true, true, true, true, true, true, true, true, true, true, true, true, true, true, true, true, true, true, true, true, false, false] rfl rfl (by kernel_rfl) (by decide) (fun K hK => ?_)
                          refine goes_ Try.func9 (by kernel_rfl) rfl #[] (by rfl) rfl rfl (by (try simp only [List.map_toArray, List.map_cons, List.map_nil]); first | done | rfl) ?_
                          with_reducible refine (alive_any _).mono ?_
                          rintro e_ w163 ⟨rfl, hb163⟩
                          refine ⟨_, rfl, ?_⟩
                          have HB163 := Aside0.mk hb163
                          have K163 := Aside0.mk (pw_cell_below hb163 K135.out)
                          clear hb163
                          refine hK.out _ _ K163.out (fun hHeld => ?_)
                          clear hK K
                          refine norm_ (a' := ?_) ?_ ?_
                          rotate_left
                          · show Act.put _ (some 162) _ = _
                            simp only [Act.put, List.setIfInBounds_toArray, List.set_cons_zero, List.set_cons_succ, i64_w, i32_w]
                            rfl
                          refine pure_ (i := 29) (N := some 163) (v := ?_) (a' := ?_) #[true, true, true, true, true, true, true, true, true, true, true, true, true, true, true, true, true, true, true, true, true, true, true, true, true, true, true, true, true, true, false] rfl rfl (by kernel_rfl) (fun _ _ _ h => h) (Or.inl ⟨by rfl, ?_⟩) ?_ ?_
                          rotate_left
                          · intro w'
                            go_simp
                            with_reducible rfl
                          rotate_left
                          · simp only [Act.put, List.setIfInBounds_toArray, List.set_cons_zero, List.set_cons_succ, i64_w, i32_w]
                            rfl
                          refine pure_ (i := 30) (N := some 6) (v := ?_) (a' := ?_) #[true, true, true, true, true, true, true, true, true, true, true, true, true, true, true, true, true, true, true, true, true, true, true, true, true, true, true, true, true, true, true] rfl rfl (by kernel_rfl) (fun _ _ _ h => h) (Or.inl ⟨by rfl, ?_⟩) ?_ ?_
                          rotate_left
                          · intro w'
                            go_simp
                            with_reducible rfl
                          rotate_left
                          · simp only [Act.put, List.setIfInBounds_toArray, List.set_cons_zero, List.set_cons_succ, i64_w, i32_w]
                            rfl
                          refine done_ (by kernel_rfl) ?_
                          go_wp2
                          go_ret
                          exact ⟨rfl, below_then (S135.out.drewN _).below (S135.out.drewN _).below.size HB163.out⟩
                        · have r3 : decide ((2 : Int) ≤ (a : Int) - (E : Int)) = true := decide_eq_true (by omega)
                          have r4 : decide ((a : Int) - (E : Int) < 6) = false := decide_eq_false (by omega)
                          clear hmid hlo HPR
                          go_wp2_with (first
                            | (go_at_call 13; (with_reducible refine (HP.out _ HCC.out).mono ?_); rintro e_ w131 ⟨A131, c131, rfl, hc131, hC131, hb131⟩; have S131 := Aside0.mk (S19.out.next hb131); have H131 := Aside0.mk hc131; have C131 := Aside0.mk hC131; have K131 := Aside0.mk (pw_cell_below hb131 hxj); clear hc131 hC131 hb131))
                          refine start_ (n := 31) (S := fun w' => w'.cell? (ad.add j) = some (.int .i64 (E : Int))) (ds := []) #[false, false, false, false, false, false, false, false, false, false, false, false, false, false, false, false, false, false, false, false, false, false, false, false, false, false, false, false, false, false, false] (by kernel_rfl) rfl rfl K131.out (fun hHeld => ?_)
                          refine pure_ (i := 0) (N := some 134) (v := ?_) (a' := ?_) #[true, false, false, false, false, false, false, false, false, false, false, false, false, false, false, false, false, false, false, false, false, false, false, false, false, false, false, false, false, false, false] rfl rfl (by kernel_rfl) (fun _ _ _ h => h) (Or.inl ⟨by rfl, ?_⟩) ?_ ?_
                          rotate_left
                          · intro w'
                            go_simp
                            with_reducible rfl
                          rotate_left
                          · simp only [Act.put, List.setIfInBounds_toArray, List.set_cons_zero, List.set_cons_succ, i64_w, i32_w]
                            rfl
                          refine pure_ (i := 2) (N := some 136) (v := ?_) (a' := ?_) #[true, false, true, false, false, false, false, false, false, false, false, false, false, false, false, false, false, false, false, false, false, false, false, false, false, false, false, false, false, false, false] rfl rfl (by kernel_rfl) (fun _ _ _ h => h) (Or.inl ⟨by rfl, ?_⟩) ?_ ?_
                          rotate_left
                          · intro w'
                            go_simp
                            with_reducible rfl
                          rotate_left
                          · simp only [Act.put, List.setIfInBounds_toArray, List.set_cons_zero, List.set_cons_succ, i64_w, i32_w]
                            rfl
                          refine pure_ (i := 3) (N := some 137) (v := ?_) (a' := ?_) #[true, false, true, true, false, false, false, false, false, false, false, false, false, false, false, false, false, false, false, false, false, false, false, false, false, false, false, false, false, false, false] rfl rfl (by kernel_rfl) (fun _ _ _ h => h) (Or.inl ⟨by rfl, ?_⟩) ?_ ?_
                          rotate_left
                          · intro w'
                            go_simp
                            with_reducible rfl
                          rotate_left
                          · simp only [Act.put, List.setIfInBounds_toArray, List.set_cons_zero, List.set_cons_succ, i64_w, i32_w]
                            rfl
                          refine pure_ (i := 4) (N := some 138) (v := ?_) (a' := ?_) #[true, false, true, true, true, false, false, false, false, false, false, false, false, false, false, false, false, false, false, false, false, false, false, false, false, false, false, false, false, false, false] rfl rfl (by kernel_rfl) (fun _ _ _ h => h) (Or.inl ⟨by rfl, ?_⟩) ?_ ?_
                          rotate_left
                          · intro w'
                            go_simp
                            with_reducible rfl
                          rotate_left
                          · simp only [Act.put, List.setIfInBounds_toArray, List.set_cons_zero, List.set_cons_succ, i64_w, i32_w]
                            rfl
                          refine one_ (i := 1) (N := some 135) #[true, true, true, true, true, false, false, false, false, false, false, false, false, false, false, false, false, false, false, false, false, false, false, false, false, false, false, false, false, false, false] rfl rfl (by kernel_rfl) (by decide) (fun K hK => ?_)
                          refine goes_ Try.func17 (by kernel_rfl) rfl #[.slice A131 mi.length c131] (by rfl) rfl rfl (by (try simp only [List.map_toArray, List.map_cons, List.map_nil]); first | done | rfl) ?_
                          with_reducible refine (back_C _ A131 c131 mi H131.out (Kd.C_below C131.out (by ((repeat (first | (with_reducible exact Below.refl _ _) | (with_reducible apply below_drew) | (with_reducible apply pw_below_drewN) | (with_reducible apply below_alloc))); (first | done | fail "not there")))) (by have := HMIL.out; omega) lt HMI.out).mono ?_
                          rintro e_ w135 ⟨A135, c135, rfl, hc135, hC135, hb135⟩
                          refine ⟨_, rfl, ?_⟩
                          have S135 := Aside0.mk ((S131.out.next (by ((repeat (first | (with_reducible exact Below.refl _ _) | (with_reducible apply below_drew) | (with_reducible apply pw_below_drewN) | (with_reducible apply below_alloc))); (first | done | fail "not there")))).next hb135)
                          have H135 := Aside0.mk hc135
                          have C135 := Aside0.mk hC135
                          have K135 := Aside0.mk (pw_cell_below hb135 K131.out)
                          clear hc135 hC135 hb135
                          refine hK.out _ _ K135.out (fun hHeld => ?_)
                          clear hK K
                          refine norm_ (a' := ?_) ?_ ?_
                          rotate_left
                          · show Act.put _ (some 135) _ = _
                            simp only [Act.put, List.setIfInBounds_toArray, List.set_cons_zero, List.set_cons_succ, i64_w, i32_w]
                            rfl
                          refine one_ (i := 5) (N := some 139) #[true, true, true, true, true, true, false, false, false, false, false, false, false, false, false, false, false, false, false, false, false, false, false, false, false, false, false, false, false, false, false] rfl rfl (by kernel_rfl) (by decide) (fun K hK => ?_)
                          refine goes_ Try.func16 (by kernel_rfl) rfl #[.slice A135 lt.length c135, .slice A0 i c0] (by rfl) rfl rfl (by (try simp only [List.map_toArray, List.map_cons, List.map_nil]); first | done | rfl) ?_
                          with_reducible refine (HSA.out _ A135 c135 S135.out.below H135.out C135.out).mono ?_
                          rintro e_ w139 ⟨rfl, m139, rfl⟩
                          refine ⟨_, rfl, ?_⟩
                          refine hK.out _ _ K135.out (fun hHeld => ?_)
                          clear hK K
                          refine norm_ (a' := ?_) ?_ ?_
                          rotate_left
                          · show Act.put _ (some 139) _ = _
                            simp only [Act.put, List.setIfInBounds_toArray, List.set_cons_zero, List.set_cons_succ, i64_w, i32_w]
                            rfl
                          refine pure_ (i := 6) (N := some 140) (v := ?_) (a' := ?_) #[true, true, true, true, true, true, true, false, false, false, false, false, false, false, false, false, false, false, false, false, false, false, false, false, false, false, false, false, false, false, false] rfl rfl (by kernel_rfl) (fun _ _ _ h => h) (Or.inl ⟨by rfl, ?_⟩) ?_ ?_
                          rotate_left
                          · intro w'
                            go_simp
                            with_reducible rfl
                          rotate_left
                          · simp only [Act.put, List.setIfInBounds_toArray, List.set_cons_zero, List.set_cons_succ, i64_w, i32_w]
                            rfl
                          refine pure_ (i := 7) (N := some 141) (v := ?_) (a' := ?_) #[true, true, true, true, true, true, true, true, false, false, false, false, false, false, false, false, false, false, false, false, false, false, false, false, false, false, false, false, false, false, false] rfl rfl (by kernel_rfl) (fun _ _ _ h => h) (Or.inl ⟨by rfl, ?_⟩) ?_ ?_
                          rotate_left
                          · intro w'
                            go_simp
                            with_reducible rfl
                          rotate_left
                          · simp only [Act.put, List.setIfInBounds_toArray, List.set_cons_zero, List.set_cons_succ, i64_w, i32_w]
                            rfl
                          refine pure_ (i := 8) (N := some 142) (v := ?_) (a' := ?_) #[true, true, true, true, true, true, true, true, true, false, false, false, false, false, false, false, false, false, false, false, false, false, false, false, false, false, false, false, false, false, false] rfl rfl (by kernel_rfl) (fun _ _ _ h => h) (Or.inl ⟨by rfl, ?_⟩) ?_ ?_
                          rotate_left
                          · intro w'
                            go_simp
                            with_reducible rfl
                          rotate_left
                          · simp only [Act.put, List.setIfInBounds_toArray, List.set_cons_zero, List.set_cons_succ, i64_w, i32_w]
                            rfl
                          refine pure_ (i := 9) (N := some 143) (v := ?_) (a' := ?_) #[true, true, true, true, true, true, true, true, true, true, false, false, false, false, false, false, false, false, false, false, false, false, false, false, false, false, false, false, false, false, false] rfl rfl (by kernel_rfl) (fun _ _ _ h => h) (Or.inl ⟨by rfl, ?_⟩) ?_ ?_
                          rotate_left
                          · intro w'
                            go_simp
                            with_reducible rfl
                          rotate_left
                          · simp only [Act.put, List.setIfInBounds_toArray, List.set_cons_zero, List.set_cons_succ, i64_w, i32_w]
                            rfl
                          refine pure_ (i := 10) (N := some 144) (v := undef) (a' := ?_) #[true, true, true, true, true, true, true, true, true, true, true, false, false, false, false, false, false, false, false, false, false, false, false, false, false, false, false, false, false, false, false] rfl rfl (by kernel_rfl) (fun _ _ _ h => h) (Or.inr ⟨by rfl, rfl⟩) ?ha92 ?hh92
                          case ha92 => (simp only [Act.put, List.setIfInBounds_toArray, List.set_cons_zero, List.set_cons_succ, i64_w, i32_w]; rfl)
                          refine pure_ (i := 11) (N := some 145) (v := undef) (a' := ?_) #[true, true, true, true, true, true, true, true, true, true, true, true, false, false, false, false, false, false, false, false, false, false, false, false, false, false, false, false, false, false, false] rfl rfl (by kernel_rfl) (fun _ _ _ h => h) (Or.inr ⟨by rfl, rfl⟩) ?ha93 ?hh93
                          case ha93 => (simp only [Act.put, List.setIfInBounds_toArray, List.set_cons_zero, List.set_cons_succ, i64_w, i32_w]; rfl)
                          refine pure_ (i := 12) (N := some 146) (v := ?_) (a' := ?_) #[true, true, true, true, true, true, true, true, true, true, true, true, true, false, false, false, false, false, false, false, false, false, false, false, false, false, false, false, false, false, false] rfl rfl (by kernel_rfl) (fun _ _ _ h => h) (Or.inl ⟨by rfl, ?_⟩) ?_ ?_
                          rotate_left
                          · intro w'
                            go_simp
                            with_reducible rfl
                          rotate_left
                          · simp only [Act.put, List.setIfInBounds_toArray, List.set_cons_zero, List.set_cons_succ, i64_w, i32_w]
                            rfl
                          refine pure_ (i := 13) (N := some 147) (v := ?_) (a' := ?_) #[true, true, true, true, true, true, true, true, true, true, true, true, true, true, false, false, false, false, false, false, false, false, false, false, false, false, false, false, false, false, false] rfl rfl (by kernel_rfl) (fun _ _ _ h => h) (Or.inl ⟨by rfl, ?_⟩) ?_ ?_
                          rotate_left
                          · intro w'
                            go_simp
                            with_reducible rfl
                          rotate_left
                          · simp only [Act.put, List.setIfInBounds_toArray, List.set_cons_zero, List.set_cons_succ, i64_w, i32_w]
                            rfl
                          refine pure_ (i := 14) (N := some 148) (v := ?_) (a' := ?_) #[true, true, true, true, true, true, true, true, true, true, true, true, true, true, true, false, false, false, false, false, false, false, false, false, false, false, false, false, false, false, false] rfl rfl (by kernel_rfl) (fun _ _ _ h => h) (Or.inl ⟨by rfl, ?_⟩) ?_ ?_
                          rotate_left
                          · intro w'
                            go_simp
                            with_reducible rfl
                          rotate_left
                          · simp only [Act.put, List.setIfInBounds_toArray, List.set_cons_zero, List.set_cons_succ, i64_w, i32_w]
                            rfl
                          refine pure_ (i := 15) (N := some 149) (v := ?_) (a' := ?_) #[true, true, true, true, true, true, true, true, true, true, true, true, true, true, true, true, false, false, false, false, false, false, false, false, false, false, false, false, false, false, false] rfl rfl (by kernel_rfl) (fun _ _ _ h => h) (Or.inl ⟨by rfl, ?_⟩) ?_ ?_
                          rotate_left
                          · intro w'
                            go_simp
                            with_reducible rfl
                          rotate_left
                          · simp only [Act.put, List.setIfInBounds_toArray, List.set_cons_zero, List.set_cons_succ, i64_w, i32_w]
                            rfl
                          refine pure_ (i := 16) (N := some 150) (v := ?_) (a' := ?_) #[true, true, true, true, true, true, true, true, true, true, true, true, true, true, true, true, true, false, false, false, false, false, false, false, false, false, false, false, false, false, false] rfl rfl (by kernel_rfl) (fun _ _ _ h => h) (Or.inl ⟨by rfl, ?_⟩) ?_ ?_
                          rotate_left
                          · intro w'
                            go_simp
                            with_reducible rfl
                          rotate_left
                          · simp only [Act.put, List.setIfInBounds_toArray, List.set_cons_zero, List.set_cons_succ, i64_w, i32_w]
                            rfl
                          refine pure_ (i := 17) (N := some 151) (v := ?_) (a' := ?_) #[true, true, true, true, true, true, true, true, true, true, true, true, true, true, true, true, true, true, false, false, false, false, false, false, false, false, false, false, false, false, false] rfl rfl (by kernel_rfl) (fun _ _ _ h => h) (Or.inl ⟨by rfl, ?_⟩) ?_ ?_
                          rotate_left
                          · intro w'
                            go_simp
                            with_reducible rfl
                          rotate_left
                          · simp only [Act.put, List.setIfInBounds_toArray, List.set_cons_zero, List.set_cons_succ, i64_w, i32_w]
                            rfl
                          refine pure_ (i := 18) (N := some 152) (v := ?_) (a' := ?_) #[true, true, true, true, true, true, true, true, true, true, true, true, true, true, true, true, true, true, true, false, false, false, false, false, false, false, false, false, false, false, false] rfl rfl (by kernel_rfl) (fun _ _ _ h => h) (Or.inl ⟨by rfl, ?_⟩) ?_ ?_
                          rotate_left
                          · intro w'
                            go_simp
                            with_reducible rfl
                          rotate_left
                          · simp only [Act.put, List.setIfInBounds_toArray, List.set_cons_zero, List.set_cons_succ, i64_w, i32_w]
                            rfl
                          refine pure_ (i := 19) (N := some 153) (v := ?_) (a' := ?_) #[true, true, true, true, true, true, true, true, true, true, true, true, true, true, true, true, true, true, true, true, false, false, false, false, false, false, false, false, false, false, false] rfl rfl (by kernel_rfl) (fun _ _ _ h => h) (Or.inl ⟨by rfl, ?_⟩) ?_ ?_
                          rotate_left
                          · intro w'
                            go_simp
                            with_reducible rfl
                          rotate_left
                          · simp only [Act.put, List.setIfInBounds_toArray, List.set_cons_zero, List.set_cons_succ, i64_w, i32_w]
                            rfl
                          refine pure_ (i := 20) (N := some 154) (v := ?_) (a' := ?_) #[true, true, true, true, true, true, true, true, true, true, true, true, true, true, true, true, true, true, true, true, true, false, false, false, false, false, false, false, false, false, false] rfl rfl (by kernel_rfl) (fun _ _ _ h => h) (Or.inl ⟨by rfl, ?_⟩) ?_ ?_
                          rotate_left
                          · intro w'
                            go_simp
                            with_reducible rfl
                          rotate_left
                          · simp only [Act.put, List.setIfInBounds_toArray, List.set_cons_zero, List.set_cons_succ, i64_w, i32_w]
                            rfl
                          refine pure_ (i := 21) (N := some 155) (v := ?_) (a' := ?_) #[true, true, true, true, true, true, true, true, true, true, true, true, true, true, true, true, true, true, true, true, true, true, false, false, false, false, false, false, false, false, false] rfl rfl (by kernel_rfl) (fun _ _ _ h => h) (Or.inl ⟨by rfl, ?_⟩) ?_ ?_
                          rotate_left
                          · intro w'
                            go_simp
                            with_reducible rfl
                          rotate_left
                          · simp only [Act.put, List.setIfInBounds_toArray, List.set_cons_zero, List.set_cons_succ, i64_w, i32_w]
                            rfl
                          refine take_ (i := 22) (N := some 156) (v := ?_) (a' := ?_) #[true, true, true, true, true, true, true, true, true, true, true, true, true, true, true, true, true, true, true, true, true, true, true, false, false, false, false, false, false, false, false] rfl rfl (by kernel_rfl) (fun _ _ _ h => h) (Or.inl ⟨by rfl, ?_⟩) hHeld ?_ ?_
                          rotate_left
                          · intro w' s0
                            go_simp
                            with_reducible rfl
                          rotate_left
                          · simp only [Act.put, List.setIfInBounds_toArray, List.set_cons_zero, List.set_cons_succ, i64_w, i32_w]
                            rfl
                          refine pure_ (i := 23) (N := some 157) (v := ?_) (a' := ?_) #[true, true, true, true, true, true, true, true, true, true, true, true, true, true, true, true, true, true, true, true, true, true, true, true, false, false, false, false, false, false, false] rfl rfl (by kernel_rfl) (fun _ _ _ h => h) (Or.inl ⟨by rfl, ?_⟩) ?_ ?_
                          rotate_left
                          · intro w'
                            go_simp
                            with_reducible rfl
                          rotate_left
                          · simp only [Act.put, List.setIfInBounds_toArray, List.set_cons_zero, List.set_cons_succ, i64_w, i32_w]
                            rfl
                          refine pure_ (i := 24) (N := some 158) (v := ?_) (a' := ?_) #[true, true, true, true, true, true, true, true, true, true, true, true, true, true, true, true, true, true, true, true, true, true, true, true, true, false, false, false, false, false, false] rfl rfl (by kernel_rfl) (fun _ _ _ h => h) (Or.inl ⟨by rfl, ?_⟩) ?_ ?_
                          rotate_left
                          · intro w'
                            go_simp
                            with_reducible rfl
                          rotate_left
                          · simp only [Act.put, List.setIfInBounds_toArray, List.set_cons_zero, List.set_cons_succ, i64_w, i32_w]
                            rfl
                          refine pure_ (i := 25) (N := some 159) (v := ?_) (a' := ?_) #[true, true, true, true, true, true, true, true, true, true, true, true, true, true, true, true, true, true, true, true, true, true, true, true, true, true, false, false, false, false, false] rfl rfl (by kernel_rfl) (fun _ _ _ h => h) (Or.inl ⟨by rfl, ?_⟩) ?_ ?_
                          rotate_left
                          · intro w'
                            go_simp
                            with_reducible rfl
                          rotate_left
                          · simp only [Act.put, List.setIfInBounds_toArray, List.set_cons_zero, List.set_cons_succ, i64_w, i32_w]
                            rfl
                          refine pure_ (i := 26) (N := some 160) (v := ?_) (a' := ?_) #[true, true, true, true, true, true, true, true, true, true, true, true, true, true, true, true, true, true, true, true, true, true, true, true, true, true, true, false, false, false, false] rfl rfl (by kernel_rfl) (fun _ _ _ h => h) (Or.inl ⟨by rfl, ?_⟩) ?_ ?_
                          rotate_left
                          · intro w'
                            go_simp
                            with_reducible rfl
                          rotate_left
                          · simp only [Act.put, List.setIfInBounds_toArray, List.set_cons_zero, List.set_cons_succ, i64_w, i32_w]
                            rfl
                          refine pure_ (i := 27) (N := some 161) (v := ?_) (a' := ?_) #[true, true, true, true, true, true, true, true, true, true, true, true, true, true, true, true, true, true, true, true, true, true, true, true, true, true, true, true, false, false, false] rfl rfl (by kernel_rfl) (fun _ _ _ h => h) (Or.inl ⟨by rfl, ?_⟩) ?_ ?_
                          rotate_left
                          · intro w'
                            go_simp
                            with_reducible rfl
                          rotate_left
                          · simp only [Act.put, List.setIfInBounds_toArray, List.set_cons_zero, List.set_cons_succ, i64_w, i32_w]
                            rfl
                          refine one_ (i := 28) (N := some 162) #[true, true, true, true, true, true, true, true, true, true, true, true, true, true, true, true, true, true, true, true, true, true, true, true, true, true, true, true, true, false, false] rfl rfl (by kernel_rfl) (by decide) (fun K hK => ?_)
                          refine goes_ Try.func9 (by kernel_rfl) rfl #[] (by rfl) rfl rfl (by (try simp only [List.map_toArray, List.map_cons, List.map_nil]); first | done | rfl) ?_
                          with_reducible refine (alive_any _).mono ?_
                          rintro e_ w163 ⟨rfl, hb163⟩
                          refine ⟨_, rfl, ?_⟩
                          have HB163 := Aside0.mk hb163
                          have K163 := Aside0.mk (pw_cell_below hb163 K135.out)
                          clear hb163
                          refine hK.out _ _ K163.out (fun hHeld => ?_)
                          clear hK K
                          refine norm_ (a' := ?_) ?_ ?_
                          rotate_left
                          · show Act.put _ (some 162) _ = _
                            simp only [Act.put, List.setIfInBounds_toArray, List.set_cons_zero, List.set_cons_succ, i64_w, i32_w]
                            rfl
                          refine pure_ (i := 29) (N := some 163) (v := ?_) (a' := ?_) #[true, true, true, true, true, true, true, true, true, true, true, true, true, true, true, true, true, true, true, true, true, true, true, true, true, true, true, true, true, true, false] rfl rfl (by kernel_rfl) (fun _ _ _ h => h) (Or.inl ⟨by rfl, ?_⟩) ?_ ?_
                          rotate_left
                          · intro w'
                            go_simp
                            with_reducible rfl
                          rotate_left
                          · simp only [Act.put, List.setIfInBounds_toArray, List.set_cons_zero, List.set_cons_succ, i64_w, i32_w]
                            rfl
                          refine pure_ (i := 30) (N := some 6) (v := ?_) (a' := ?_) #[true, true, true, true, true, true, true, true, true, true, true, true, true, true, true, true, true, true, true, true, true, true, true, true, true, true, true, true, true, true, true] rfl rfl (by kernel_rfl) (fun _ _ _ h => h) (Or.inl ⟨by rfl, ?_⟩) ?_ ?_
                          rotate_left
                          · intro w'
                            go_simp
                            with_reducible rfl
                          rotate_left
                          · simp only [Act.put, List.setIfInBounds_toArray, List.set_cons_zero, List.set_cons_succ, i64_w, i32_w]
                            rfl
                          refine done_ (by kernel_rfl) ?_
                          go_wp2
                          go_ret
                          exact ⟨rfl, below_then (S135.out.drewN _).below (S135.out.drewN _).below.size HB163.out⟩
                · exfalso
                  have h1 : i = l0.length := by have := HI.out; omega
                  have h2 := HEA.out
                  rw [h1, endJ_all, ← HB0C.out] at h2
                  omega
theorem journalBack_any (A0 : Option Addr) (c0 : Nat) (l0 : List S24) (at_ bit : Int) (w : World) (hc0 : l0.length ≤ c0) (hC0 : Kd.C k24 w A0 l0.length l0) (hB0 : Args.Recs l0)
    (hI1 : Args.I64 at_) (hI2 : Args.I64 bit) :
    Calls Try.prog 4 #[.slice A0 l0.length c0, .int .i64 at_, .int .i64 bit] w fun e w' => e = .returned (.bool true) ∧ Below w.heap.size w w' := by
  by_cases hb : lightB l0 12 = true
  · exact back_main A0 c0 l0 at_ bit w hc0 hC0 hB0 hI1 hI2 hb
  · exact back_out A0 c0 l0 at_ bit w hc0 hC0 (by simpa using hb)
end Go.Proofs.Ytmcdpgopjfpjeaa.S
