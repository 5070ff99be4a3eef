/- Walks of laws of chapter 29. -/
import Derived.Test.YtmcdpgopjfpjeaaCat
import Derived.Test.YtmcdpgopjfpjeaaS3
import Derived.Test.YtmcdpgopjfpjeaaArgs
import Derived.Deep.RegionHeld3
namespace Go.Proofs.Ytmcdpgopjfpjeaa.S
open Go.RowKit Go.Proofs.YtmcdpgopjfpjeaaW.PrintWords Go.Proofs.YtmcdpgopjfpjeaaW.PrintLast Go.Proofs.YtmcdpgopjfpjeaaW.PrintMore
attribute [local go_sem] max2_int min2_int max_two min_two max_three min_three max_four min_four
set_option linter.unusedVariables false
set_option linter.unusedSimpArgs false
theorem blk_cell_at (W : World) (g t : Nat) (cs : Array Value) (i : Nat) (v : Value) (h : W.heap[g]? = some (.cells cs t (0, 0))) (hv : cs[i]? = some v) : W.cell? ⟨g, i, none⟩ = some v := by
  simp [World.cell?, h, hv]
theorem blk_new_at {W : World} {cs : Array Value} {t g : Nat} (h : g = W.heap.size) : (W.alloc (.cells cs t)).heap[g]? = some (.cells cs t (0, 0)) := by subst h; exact blk_new W _
/-- an empty row of the call's own -/
theorem N_zero {α : Type} {d : Kd α} {e base g : Nat} {W : World} {ok : Nat → Prop} (hb : W.heap[g]? = some (.cells #[] e (0, 0))) (hbase : base ≤ g) (hok : ok g) : Kd.N d e W base ok (.slice (some ⟨g, 0, none⟩) 0 0) [] :=
  Kd.R_N ⟨fun k hk => by
      have : g = k := by simpa [Value.ownBlock] using hk
      rw [← this]; exact hok,
    [], ⟨by simp, .inr ⟨g, 0, #[], rfl, hbase, hb, Nat.le_refl _, by decide, by simp, by simp⟩⟩, Reps.none _ _⟩
/-- a row of one record -/
theorem C_one24 {W : World} {g c : Nat} {x : S24} {A : Option Addr} (hb : W.heap[g]? = some (.cells #[.int .i64 x.f0, .slice A x.f1.length c] 24 (0, 0))) (hc : x.f1.length ≤ c) (hC : Kd.C (Kd.int .u8) W A x.f1.length x.f1) : Kd.C k24 W (some ⟨g, 0, none⟩) 1 [x] := by
  refine ⟨rfl, by decide, fun _ => ⟨_, rfl, fun j p hj => ?_⟩⟩
  rcases j with _ | j
  · have e : x = p := by simpa using hj
    subst e
    refine ⟨_, rfl, k24_mk W x hc hC, fun i u hu => ?_⟩
    rw [add_plain]
    simp only [Nat.zero_mul, Nat.zero_add]
    refine blk_cell_at W g 24 _ i u hb ?_
    rcases i with _ | _ | i
    · simpa using hu
    · simpa using hu
    · simp at hu
  · simp at hj
theorem F_one24 {w W : World} {g c : Nat} {x : S24} {A : Option Addr} (hbl : Below w.heap.size w W) (hb : W.heap[g]? = some (.cells #[.int .i64 x.f0, .slice A x.f1.length c] 24 (0, 0))) (hc : x.f1.length ≤ c) (hC : Kd.C (Kd.int .u8) w A x.f1.length x.f1) : Kd.F k24 W (fun k => k = g ∨ k < w.heap.size) (some ⟨g, 0, none⟩) 1 [x] := fun W' hW =>
  C_one24 ((hW g (.inl rfl) (blk_lt hb)).trans hb) hc ((Kd.heap_int .u8).C (fun k hk => (hW k (.inr hk) (Nat.lt_of_lt_of_le hk hbl.size)).trans (hbl.block k hk)) hC)
theorem fr1_len (x : S24) : (fr1 x).length = x.f1.length + 10 := by unfold fr1; exact frameJ_len _ _
/-- the rest of a crash -/
theorem crash_plain {l : List S24} {x : S24} (hl : Fine l) (hk : okJ x.f0 x.f1 = true) (hB : Args.Bytes x.f1) (keep : Int) (hlen : (catJ l ++ fr1 x).length ≤ 4000000) (want : List S24) (hw : want = if ((fr1 x).length : Int) ≤ keep then l ++ [x] else l) :
    ∃ z zs, (catJ l ++ fr1 x).take (((catJ l).length : Int) + keepJ keep (catJ l ++ fr1 x).length ((catJ l).length : Int)).toNat = z ∧ ((catJ l).length : Int) + keepJ keep (catJ l ++ fr1 x).length ((catJ l).length : Int) = zs ∧ z.length ≤ 4000000 ∧
      journal_Read.f z = some (want.map to29, ((catJ want).length : Int)) ∧ (catJ want).length ≤ z.length ∧ z.take (catJ want).length = catJ want := by
  obtain ⟨k0, k1, kc⟩ := okJ_spec.1 hk
  obtain ⟨kk, hkk⟩ : ∃ kk, keepJ keep (catJ l ++ fr1 x).length ((catJ l).length : Int) = kk := ⟨_, rfl⟩
  have hr := keepJ_range keep (catJ l ++ fr1 x).length ((catJ l).length : Int) (by omega) (by rw [List.length_append]; omega)
  rw [hkk] at hr
  refine ⟨_, _, rfl, rfl, by rw [List.length_take]; omega, ?_⟩
  rw [hkk, hw]
  have hfl : (fr1 x).length = x.f1.length + 10 := frameJ_len _ _
  rw [List.length_append] at hr
  have hle : (catJ l).length ≤ 4000000 := by rw [List.length_append] at hlen; omega
  by_cases h : ((fr1 x).length : Int) ≤ keep
  · rw [if_pos h]
    have e : kk = ((fr1 x).length : Int) := by
      rw [← hkk]; unfold keepJ; rw [List.length_append]
      split <;> split at * <;> omega
    have e2 : (((catJ l).length : Int) + kk).toNat = (catJ l ++ fr1 x).length := by rw [e, List.length_append]; omega
    rw [e2, List.take_length, ← catJ_snoc]
    have hF : Fine (l ++ [x]) := fine_snoc hl hk hB
    exact ⟨read_cat0 hF (by rw [catJ_snoc]; omega), Nat.le_refl _, List.take_length⟩
  · rw [if_neg h]
    have e : kk < ((fr1 x).length : Int) := by
      rw [← hkk]; unfold keepJ; rw [List.length_append]
      split <;> split at * <;> omega
    obtain ⟨j, hj⟩ := Int.eq_ofNat_of_zero_le hr.1
    subst hj
    rw [show (((catJ l).length : Int) + (j : Int)).toNat = (catJ l).length + j by omega, List.take_length_add_append]
    refine ⟨read_cat hl (bytes_take (frameJ_bytes hB) j) (noFrame_part ⟨k0, k1⟩ kc hB (by omega)) ?_, by rw [List.length_append]; omega, List.take_left⟩
    rw [List.length_append, List.length_take]; rw [List.length_append] at hlen; omega
/-- the walk's state: a box and a disk behind it -/
structure Cr (w wr : World) (bx : Obj) (vd : Value) (ld : List Int) : Prop where
  dk : Dk wr (w.heap.size + 1) (w.heap.size + 1) vd ld (ld.length : Int)
  below : Below (w.heap.size + 1) (w.alloc bx) wr
theorem Cr.next {w wr w' : World} {bx : Obj} {vd : Value} {ld : List Int} (h : Cr w wr bx vd ld) (hb : Below wr.heap.size wr w') : Cr w w' bx vd ld :=
  ⟨h.dk.below hb, below_then h.below (by have := h.below.size; simpa using this) hb⟩
theorem Cr.drewN {w wr : World} {bx : Obj} {vd : Value} {ld : List Int} (h : Cr w wr bx vd ld) (m : Nat) : Cr w (wr.drewN m) bx vd ld := h.next (pw_below_drewN (Below.refl _ _) m)
theorem Cr.put {w wr w' : World} {bx : Obj} {vd vd' : Value} {ld ld' : List Int} (h : Cr w wr bx vd ld) (hd : Dk w' (w.heap.size + 1) (w.heap.size + 1) vd' ld' (ld'.length : Int)) (hb : Below (w.heap.size + 1) wr w') : Cr w w' bx vd' ld' :=
  ⟨hd, h.below.trans hb⟩
theorem Cr.start (w : World) (bx : Obj) (m : Nat) (w3 : World) (h : w3 = (((w.alloc bx).drewN m).alloc (.cells #[.slice none 0 0, .int .i64 0] 78))) : Cr w w3 bx (.slice none 0 0) [] := by
  subst h
  have e : ((w.alloc bx).drewN m).heap.size = w.heap.size + 1 := by simp
  have := newDisk_dk ((w.alloc bx).drewN m)
  rw [e] at this
  exact ⟨this, (pw_below_drewN (Below.refl (w.heap.size + 1) (w.alloc bx)) m).alloc (by simp) _⟩
theorem Cr.all {w wr : World} {bx : Obj} {vd : Value} {ld : List Int} (h : Cr w wr bx vd ld) : Below w.heap.size w wr :=
  (below_alloc (Below.refl w.heap.size w) bx).trans ⟨h.below.os, h.below.tape, h.below.output, h.below.size, fun k hk => h.below.block k (by omega)⟩
set_option maxRecDepth 100000 in
set_option maxHeartbeats 8000000 in
/-- the guard turns the input away -/
theorem crash_out (A0 : Option Addr) (c0 : Nat) (l0 : List S24) (k1 : Int) (A1 : Option Addr) (c1 : Nat) (l1 : List Int) (keep : Int) (w : World) (hc0 : l0.length ≤ c0) (hC0 : Kd.C k24 w A0 l0.length l0) (b : Bool) (hb : lightB l0 12 = b) (h : b = false ∨ (l1.length : Int) > 300) :
    Calls Try.prog 7 #[.slice A0 l0.length c0, .agg #[.int .i64 k1, .slice A1 l1.length c1], .int .i64 keep] w fun e w' => e = .returned (.bool true) ∧ Below w.heap.size w w' := by
  have hmax := Kd.C_max hC0
  have H0 := Aside0.mk hc0
  have HC0 := Aside0.mk hC0
  have HL := Aside0.mk (light_ev l0 (by omega) 12 (l0.length + 1) (by omega))
  rw [hb] at HL
  have HH := Aside0.mk h
  clear hc0 hC0 hmax hb h
  rcases b with _ | _
  · go_enter Try.func7, Try.ntmps7
    go_wp2_with (first
      | (go_at_call 20; (with_reducible refine (noonmarklaw29_Light.calls (l0.length + 1) A0 c0 l0 12 false _ (Kd.C_alloc HC0.out _) H0.out HL.out).mono ?_); rintro e_ w1 ⟨rfl, ⟨m1, rfl⟩⟩)
      | (go_at_call 9; (with_reducible refine (alive_any _).mono ?_); rintro e_ w2 ⟨rfl, hb⟩))
    go_ret
    exact ⟨rfl, below_then (pw_below_drewN (below_alloc (Below.refl _ _) _) _) (by simp) hb⟩
  · have h3 : (l1.length : Int) > 300 := by rcases HH.out with h | h; cases h; exact h
    have d1 : decide ((300 : Int) < (l1.length : Int)) = true := decide_eq_true h3
    clear h3
    go_enter Try.func7, Try.ntmps7
    go_wp2_with (first
      | (go_at_call 20; (with_reducible refine (noonmarklaw29_Light.calls (l0.length + 1) A0 c0 l0 12 true _ (Kd.C_alloc HC0.out _) H0.out HL.out).mono ?_); rintro e_ w1 ⟨rfl, ⟨m1, rfl⟩⟩)
      | (go_at_call 9; (with_reducible refine (alive_any _).mono ?_); rintro e_ w2 ⟨rfl, hb⟩))
    go_ret
    exact ⟨rfl, below_then (pw_below_drewN (below_alloc (Below.refl _ _) _) _) (by simp) hb⟩
theorem Cr.all' {w wr : World} {bx : Obj} (h : Below (w.heap.size + 1) (w.alloc bx) wr) : Below w.heap.size w wr :=
  (below_alloc (Below.refl w.heap.size w) bx).trans ⟨h.os, h.tape, h.output, h.size, fun k hk => h.block k (by omega)⟩
theorem Cr.size' {w wr : World} {bx : Obj} (h : Below (w.heap.size + 1) (w.alloc bx) wr) : w.heap.size + 1 ≤ wr.heap.size := by have := h.size; simpa using this
theorem Bag.base (bs : List (Option Addr × List Int)) (r9 : List (Option Addr × List S29)) (r4 : List (Option Addr × List S24)) {w W : World} (hb : Below w.heap.size w W) (h : ∀ p ∈ bs, Kd.C (Kd.int .u8) w p.1 p.2.length p.2) (h9 : ∀ p ∈ r9, Kd.C k29 w p.1 p.2.length p.2) (h4 : ∀ p ∈ r4, Kd.C k24 w p.1 p.2.length p.2) : Bag w W bs r9 r4 :=
  (Bag.mk (Below.refl _ _) h h9 h4 : Bag w w bs r9 r4).next hb
theorem Cr.cell {w wr : World} {bx : Obj} {vd : Value} {ld : List Int} (h : Cr w wr bx vd ld) {a : Addr} {v : Value} (hc : w.cell? a = some v) : wr.cell? a = some v := pw_cell_below h.all hc
theorem take_snoc (l : List S24) (i : Nat) (h : i < l.length) : l.take (i + 1) = l.take i ++ [rd_T24 l (i : Int)] := by
  rw [rd24_at l i h, List.take_add_one, List.getElem?_eq_getElem h]; rfl
set_option maxRecDepth 100000 in
set_option maxHeartbeats 8000000 in
theorem crash_main (A0 : Option Addr) (c0 : Nat) (l0 : List S24) (k1 : Int) (A1 : Option Addr) (c1 : Nat) (l1 : List Int) (keep : Int) (w : World) (hc0 : l0.length ≤ c0) (hC0 : Kd.C k24 w A0 l0.length l0) (hB0 : Args.Recs l0)
    (hc1 : l1.length ≤ c1) (hC1 : Kd.C (Kd.int .u8) w A1 l1.length l1) (hB1 : Args.Bytes l1) (hb : lightB l0 12 = true) (h3 : ¬ (l1.length : Int) > 300) :
    Calls Try.prog 7 #[.slice A0 l0.length c0, .agg #[.int .i64 k1, .slice A1 l1.length c1], .int .i64 keep] w fun e w' => e = .returned (.bool true) ∧ Below w.heap.size w w' := by
  have hmax := Kd.C_max hC0
  have H0 := Aside0.mk hc0
  have HC0 := Aside0.mk hC0
  have HB0 := Aside0.mk hB0
  have H1 := Aside0.mk hc1
  have HC1 := Aside0.mk hC1
  have HB1 := Aside0.mk hB1
  have HL := Aside0.mk (light_ev l0 (by omega) 12 (l0.length + 1) (by omega))
  rw [hb] at HL
  have HS := Aside0.mk (lightB_spec hb)
  have N1 : Aside0 (l1.length ≤ 300) := ⟨by omega⟩
  have d1 : decide ((300 : Int) < (l1.length : Int)) = false := decide_eq_false h3
  clear hc0 hC0 hB0 hc1 hC1 hB1 hb h3 hmax
  have X0 := Aside0.mk (blk_new w (.cells #[.int .i64 k1, .slice A1 l1.length c1] 24))
  go_enter Try.func7, Try.ntmps7
  go_wp2_with (first
    | (go_at_call 20; (with_reducible refine (noonmarklaw29_Light.calls (l0.length + 1) A0 c0 l0 12 true _ (Kd.C_alloc HC0.out _) H0.out HL.out).mono ?_); rintro e_ w1 ⟨rfl, ⟨m1, rfl⟩⟩)
    | (go_at_call 23; (with_reducible refine (newDisk_any _).mono ?_); rintro e_ w2 ⟨rfl, hw2⟩; have HD := Aside0.mk (Cr.start w _ _ w2 hw2); clear hw2))
  go_loopw [8] (fun v8 wr => ∃ (i : Nat) (vd : Value), v8 = .int .i64 i ∧ Aside0 (i ≤ l0.length) ∧ Aside0 (Fine (l0.take i)) ∧ Aside0 (Cr w wr (.cells #[.int .i64 k1, .slice A1 l1.length c1] 24) vd (catJ (l0.take i)))) (fun v8 _ => l0.length - (intOf v8).toNat)
  case atStart => exact ⟨0, _, rfl, ⟨Nat.zero_le _⟩, ⟨fine_nil⟩, HD⟩
  case round =>
    obtain ⟨i, vd, rfl, HI, HF, HS0⟩ := hrel
    clear HD
    by_cases hlt : i < l0.length
    · have q0 : (0 : Int) ≤ (i : Int) := by omega
      have q1 : (i : Int) < (l0.length : Int) := by omega
      obtain ⟨ad, Ax, cx, rfl, hx0, hx1, hcx, hCx⟩ := at_T24 HC0.out (i : Int) q0 q1
      replace hx0 := HS0.out.cell hx0
      replace hx1 := HS0.out.cell hx1
      rw [Int.toNat_natCast] at hx0 hx1
      have hmem : rd_T24 l0 (i : Int) ∈ l0 := by rw [rd24_at l0 i hlt]; exact List.getElem_mem _
      have HT := Aside0.mk (take_snoc l0 i hlt)
      obtain ⟨x, hx⟩ : ∃ x, x = rd_T24 l0 (i : Int) := ⟨_, rfl⟩
      rw [← hx] at hx0 hx1 hcx hCx hmem HT
      have HM := Aside0.mk hmem
      have HX := Aside0.mk hcx
      have HCX := Aside0.mk (Kd.C_below hCx HS0.out.all)
      have HXL : Aside0 (x.f1.length ≤ 300) := ⟨HS.out.2 _ hmem⟩
      have HLE : Aside0 ((catJ (l0.take i)).length + 310 ≤ 4000000) := ⟨by
        have h1 := catJ_len (l := l0.take i) (n := 300) fun y hy => HS.out.2 y (List.mem_of_mem_take hy)
        have h2 := HS.out.1
        rw [List.length_take] at h1
        have h4 : min i l0.length * (300 + 10) ≤ 12 * 310 := Nat.mul_le_mul (by omega) (by omega)
        omega⟩
      have HIL : Aside0 (i < l0.length) := ⟨hlt⟩
      have hil : i < l0.length := hlt
      have hi20 : i < 20 := by have := HS.out.1; omega
      clear hx hcx hCx hmem hlt
      by_cases hok : okJ x.f0 x.f1 = true
      · have HFR : Aside0 (journal_Frame.f (4 * x.f1.length + 41) x.f0 x.f1 = some (fr1 x, 0)) := ⟨by rw [pframe_ev _ _ _ (by omega)]; unfold framedJ; rw [if_pos hok]; rfl⟩
        have HOK := Aside0.mk hok
        clear hok
        go_wp2_with (first
          | (go_at_call 11; (with_reducible refine (own_C _ x.f0 Ax cx x.f1 HX.out HCX.out).mono ?_); rintro e_ w4 ⟨A4, c4, rfl, hc4, hC4, hb4⟩; have HS4 := Aside0.mk (HS0.out.next hb4); have H4 := Aside0.mk hc4; have HC4 := Aside0.mk hC4; clear hc4 hC4 hb4)
          | (go_at_call 29; (with_reducible refine (add_ok _ (w.heap.size + 1) (w.heap.size + 1) vd (catJ (l0.take i)) _ HS4.out.dk (4 * x.f1.length + 41) x.f0 A4 c4 x.f1 HC4.out H4.out (fr1 x) HFR.out (by have := HLE.out; have := HXL.out; have := fr1_len x; omega)).mono ?_); rintro e_ w5 ⟨rfl, ⟨vd5, hd5⟩, hb5⟩; have HS5 := Aside0.mk (HS4.out.put hd5 hb5); clear hd5 hb5))
        go_roundw
        case rel => exact ⟨i + 1, vd5, by go_num, ⟨by have := HIL.out; omega⟩, ⟨by rw [HT.out]; exact fine_snoc HF.out HOK.out (HB0.out _ HM.out).2⟩, ⟨by rw [HT.out, catJ_snoc]; exact HS5.out⟩⟩
        case measure => have := HIL.out; simp [intOf]; omega
      · have HFR : Aside0 (journal_Frame.f (4 * x.f1.length + 41) x.f0 x.f1 = some ([], 1)) := ⟨by rw [pframe_ev _ _ _ (by omega)]; unfold framedJ; rw [if_neg hok]⟩
        clear hok
        go_wp2_with (first
          | (go_at_call 11; (with_reducible refine (own_C _ x.f0 Ax cx x.f1 HX.out HCX.out).mono ?_); rintro e_ w4 ⟨A4, c4, rfl, hc4, hC4, hb4⟩; have HS4 := Aside0.mk (HS0.out.next hb4); have H4 := Aside0.mk hc4; have HC4 := Aside0.mk hC4; clear hc4 hC4 hb4)
          | (go_at_call 29; (with_reducible refine (add_bad _ ⟨w.heap.size + 1, 0, none⟩ (4 * x.f1.length + 41) x.f0 A4 c4 x.f1 HC4.out H4.out [] 1 HFR.out (by decide)).mono ?_); rintro e_ w5 ⟨rfl, hb5⟩; have HS5 := Aside0.mk (HS4.out.next hb5); clear hb5)
          | (go_at_call 9; (with_reducible refine (alive_any _).mono ?_); rintro e_ w6 ⟨rfl, hb6⟩; have HB6 := Aside0.mk hb6; clear hb6))
        go_ret
        exact ⟨rfl, below_then HS5.out.all HS5.out.all.size HB6.out⟩
    · have hie : i = l0.length := by have := HI.out; omega
      subst hie
      have HF1 : Aside0 (Fine l0) := ⟨by have := HF.out; rw [List.take_length] at this; exact this⟩
      have HS1 : Aside0 (Cr w wr (.cells #[.int .i64 k1, .slice A1 l1.length c1] 24) vd (catJ l0)) := ⟨by have := HS0.out; rw [List.take_length] at this; exact this⟩
      have HLE : Aside0 ((catJ l0).length ≤ 3720) := ⟨by
        have h1 := catJ_len (l := l0) (n := 300) HS.out.2
        have h2 := HS.out.1
        have h4 : l0.length * (300 + 10) ≤ 12 * 310 := Nat.mul_le_mul (by omega) (by omega)
        omega⟩
      have X1 := (HS1.out.below.block w.heap.size (by omega)).trans X0.out
      have x10 := blk_cell_at wr _ _ _ 0 _ X1 rfl
      have x11 := blk_cell_at wr _ _ _ 1 _ X1 rfl
      have G0 := Aside0.mk ((Bag.mk (Below.refl _ _) (by rintro p hp; simp only [List.mem_cons, List.not_mem_nil, or_false] at hp; rcases hp with rfl; exact HC1.out) (fun p hp => by cases hp) (by rintro p hp; simp only [List.mem_cons, List.not_mem_nil, or_false] at hp; rcases hp with rfl; exact HC0.out) : Bag w w [(A1, l1)] [] [(A0, l0)]).next HS1.out.all)
      have d3 : decide (l0.length < l0.length) = false := decide_eq_false (by omega)
      clear HF HS0 HI
      by_cases hok : okJ k1 l1 = true
      · obtain ⟨more, hmore⟩ : ∃ more : S24, more = ⟨k1, l1⟩ := ⟨_, rfl⟩
        have hk0 : more.f0 = k1 := by rw [hmore]
        have hk1 : more.f1 = l1 := by rw [hmore]
        obtain ⟨f, hfe⟩ : ∃ f, fr1 more = f := ⟨_, rfl⟩
        have hfl : f.length = l1.length + 10 := by rw [← hfe, fr1_len, hk1]
        have HFE : Aside0 (framedJ k1 l1 = (f, 0)) := ⟨by unfold framedJ; rw [if_pos hok, ← hfe, ← hk0, ← hk1]; rfl⟩
        obtain ⟨want, hwant⟩ : ∃ want, want = if ((fr1 more).length : Int) ≤ keep then l0 ++ [more] else l0 := ⟨_, rfl⟩
        obtain ⟨z, zs, hz1, hz2, hz3, hz4, hz5, hz6⟩ := crash_plain (x := more) HF1.out (by rw [hk0, hk1]; exact hok) (by rw [hk1]; exact HB1.out) keep (by rw [List.length_append, hfe, hfl]; have := HLE.out; have := N1.out; omega) want hwant
        have HFW : Fine want := by
          rw [hwant]; split
          · exact fine_snoc HF1.out (by rw [hk0, hk1]; exact hok) (by rw [hk1]; exact HB1.out)
          · exact HF1.out
        obtain ⟨bw, hbw⟩ : ∃ bw, bw = catJ want := ⟨_, rfl⟩
        obtain ⟨m9, hm9⟩ : ∃ m9, m9 = want.map to29 := ⟨_, rfl⟩
        rw [← hbw] at hz4 hz5 hz6
        rw [← hm9] at hz4
        have hbwl : bw.length ≤ 4000000 := by omega
        have HRD : Aside0 (journal_Read.f bw = some (m9, (bw.length : Int))) := ⟨by rw [hbw, hm9]; exact read_cat0 HFW (by rw [← hbw]; omega)⟩
        have HZ4 := Aside0.mk hz4
        have HZ5 := Aside0.mk hz5
        have HZ6 := Aside0.mk hz6
        have HM9 : Aside0 (want = m9.map to24) := ⟨by rw [hm9, to24_to29]⟩
        have hwl : want.length ≤ 13 := by
          have h9 := HS.out.1
          rw [hwant]; split
          · rw [List.length_append, List.length_singleton]; omega
          · omega
        have hml : m9.length = want.length := by rw [hm9, List.length_map]
        have HML : Aside0 (m9.length ≤ 13 ∧ want.length ≤ 13) := ⟨by omega, hwl⟩
        have HWW : Aside0 (∀ x ∈ want, x.f1.length ≤ 9223372036854775807) := ⟨fun x hx => by have := (okJ_spec.1 (HFW x hx).1).2.2; omega⟩
        have HBL := Aside0.mk hbwl
        have HCR : Aside0 (∀ (W : World) (v : Value), Dk W (w.heap.size + 1) (w.heap.size + 1) v (catJ l0 ++ f) ((catJ l0).length : Int) → Calls Try.prog 28 #[.pointer (some ⟨w.heap.size + 1, 0, none⟩), .int .i64 keep] W (NewQ W z zs)) := ⟨fun W v hd => by
          have := crash_ok W (w.heap.size + 1) (w.heap.size + 1) v (catJ l0 ++ f) ((catJ l0).length : Int) keep hd (by omega) (by rw [List.length_append]; omega)
          rw [hfe] at hz1 hz2
          rw [hz1, hz2] at this
          exact this⟩
        have HFL := Aside0.mk hfl
        have eb : ((bw.length : Int) == (bw.length : Int)) = true := beq_self_eq_true _
        rw [hfe] at hwant
        clear hok hfe hz1 hz2 hz3 hz4 hz5 hz6 hbw hm9 hbwl hfl hwl hml HFW
        by_cases hkeep : (f.length : Int) ≤ keep
        · rw [if_pos hkeep] at hwant
          have HWA := Aside0.mk hwant
          have d5 : decide ((f.length : Int) ≤ keep) = true := decide_eq_true hkeep
          have HMO := Aside0.mk hmore
          clear hkeep hwant hk0 hk1 hmore
          go_wp2_with (first
            | (go_at_call 11; (with_reducible refine (own_C _ k1 A1 c1 l1 H1.out (G0.out.at_ (by simp))).mono ?_); rintro e_ w3 ⟨A3, c3, rfl, hc3, hC3, hb3⟩; have G3 := Aside0.mk ((G0.out.next hb3).add hC3); have S3 := Aside0.mk (HS1.out.next hb3); have H3 := Aside0.mk hc3; clear hc3 hC3 hb3)
            | (go_at_call 10; (with_reducible refine (pframe_C _ k1 A3 c3 l1 H3.out (G3.out.at_ (by simp)) f 0 HFE.out).mono ?_); rintro e_ w4 ⟨A4, c4, rfl, hc4, hC4, hb4⟩; have C4 := Aside0.mk hC4; have S4 := Aside0.mk (S3.out.next hb4); have H4 := Aside0.mk hc4; clear hc4 hC4 hb4)
            | (go_at_call 24; (with_reducible refine (append_ok _ (w.heap.size + 1) (w.heap.size + 1) vd (catJ l0) f _ S4.out.dk A4 c4 C4.out (by have := HFL.out; have := HLE.out; have := N1.out; omega)).mono ?_); rintro e_ w5 ⟨rfl, vd5, hd5, hat5, hb5, hk5⟩; have D5 := Aside0.mk hd5; have B5 := Aside0.mk (S4.out.below.trans hb5); have A5 := Aside0.mk (Cr.all' B5.out); clear hd5 hat5 hb5 hk5)
            | (go_at_call 28; (with_reducible refine (HCR.out _ _ D5.out).mono ?_); rintro e_ w6 ⟨gc, vc, rfl, hd6, hb6⟩; have D6 := Aside0.mk hd6; have A6 := Aside0.mk (below_then A5.out A5.out.size hb6); have Z6 := Aside0.mk ((below_then B5.out (Cr.size' B5.out) hb6)); clear hd6 hb6)
            | (go_at_call 30; (with_reducible refine (open_ok _ _ gc vc z zs D6.out m9 bw.length HZ5.out HZ4.out).mono ?_); rintro e_ w7 ⟨gd, vg, v0, rfl, hd7, hr7, hb7⟩; rw [HZ6.out] at hd7; obtain ⟨A7, c7, rfl, hc7, hC7⟩ := Kd.R_reads hr7; have D7 := Aside0.mk hd7; have A7_ := Aside0.mk (below_then A6.out A6.out.size hb7); have Z7 := Aside0.mk (below_then Z6.out (Cr.size' Z6.out) hb7); have H7 := Aside0.mk hc7; have G7 := Aside0.mk ((Bag.base [] [] [(A0, l0)] A7_.out (by simp) (by simp) (by rintro p hp; simp only [List.mem_cons, List.not_mem_nil, or_false] at hp; rcases hp with rfl; exact HC0.out)).add9 hC7); clear hd7 hr7 hb7 hc7 hC7; have x7 := (Z7.out.block w.heap.size (by omega)).trans X0.out; have x70 : w7.cell? ⟨w.heap.size, 0, none⟩ = some (.int .i64 k1) := blk_cell_at _ _ _ _ 0 _ x7 rfl; have x71 : w7.cell? ⟨w.heap.size, 1, none⟩ = some (.slice A1 l1.length c1) := blk_cell_at _ _ _ _ 1 _ x7 rfl; clear x7))
          have HWM : Aside0 (want = l0 ++ [(⟨k1, l1⟩ : S24)]) := ⟨by rw [HWA.out, HMO.out]⟩
          go_region_held3 (fun w' => w'.cell? ⟨w.heap.size, 0, none⟩ = some (.int .i64 k1) ∧ w'.cell? ⟨w.heap.size, 1, none⟩ = some (.slice A1 l1.length c1))
            (first
              | exact ⟨pw_cell_below (by ((repeat (first | (with_reducible exact Below.refl _ _) | (with_reducible apply below_drew) | (with_reducible apply pw_below_drewN) | (with_reducible apply below_alloc))); (first | done | fail "not there"))) x70, pw_cell_below (by ((repeat (first | (with_reducible exact Below.refl _ _) | (with_reducible apply below_drew) | (with_reducible apply pw_below_drewN) | (with_reducible apply below_alloc))); (first | done | fail "not there"))) x71⟩
              | exact ⟨pw_cell_below (by ((repeat (first | (with_reducible exact Below.refl _ _) | (with_reducible apply below_drew) | (with_reducible apply pw_below_drewN) | (with_reducible apply below_alloc))); (first | done | fail "not there"))) Y74.out.1, pw_cell_below (by ((repeat (first | (with_reducible exact Below.refl _ _) | (with_reducible apply below_drew) | (with_reducible apply pw_below_drewN) | (with_reducible apply below_alloc))); (first | done | fail "not there"))) Y74.out.2⟩
              | exact ⟨pw_cell_below (by ((repeat (first | (with_reducible exact Below.refl _ _) | (with_reducible apply below_drew) | (with_reducible apply pw_below_drewN) | (with_reducible apply below_alloc))); (first | done | fail "not there"))) Y77.out.1, pw_cell_below (by ((repeat (first | (with_reducible exact Below.refl _ _) | (with_reducible apply below_drew) | (with_reducible apply pw_below_drewN) | (with_reducible apply below_alloc))); (first | done | fail "not there"))) Y77.out.2⟩)
            (first
              | ((refine Kd.N_append_rows_step k24 (w0 := w7) w7.heap.size (by rfl) (.tmp 72) (.tmp 73) 35 24 (.agg #[.int .i64 0, .slice none 0 0]) 32 rfl Try.underlying35 info24 rfl (by decide) (by decide) _ [] l0 A0 l0.length c0 (fun _ => True) (fun k => k < w.heap.size) rfl rfl ?aO ?aR ?aK (fun _ _ => trivial) ?aB ?aS ?aL ?_); (case aO => exact N_zero (by ((with_reducible repeat (first | refine blk_drewN ?_ _ | refine blk_drew ?_)); first | (with_reducible exact blk_new_at (by simp; done)) | ((with_reducible refine blk_alloc ?_ _); (with_reducible repeat (first | refine blk_drewN ?_ _ | refine blk_drew ?_)); (with_reducible exact blk_new_at (by simp; done))))) (by simp) trivial); (case aR => exact Kd.F_below (Kd.C_F k24_heap HC0.out) (by ((repeat (first | (with_reducible exact (A7_.out)) | (with_reducible apply below_drew) | (with_reducible apply pw_below_drewN) | (with_reducible apply below_alloc))); (first | done | fail "not there")))); (case aK => exact (fun k hk => ⟨trivial, fun e => by have h9 := A7_.out.size; first | (have e9 : k = w7.heap.size := Option.some.inj e; omega) | (have e9 : k = w7.heap.size + 1 := Option.some.inj e; omega)⟩)); (case aB => ((repeat (first | (with_reducible exact Below.refl _ _) | (with_reducible apply below_drew) | (with_reducible apply pw_below_drewN) | (with_reducible apply below_alloc))); (first | done | fail "not there"))); (case aS => ((try simp) <;> (try omega))); (case aL => have := HS.out.1; simp; omega); intro v74 w74 ho74 hb74 hg74 hat74; (have Y74 : Aside0 (w74.cell? ⟨w.heap.size, 0, none⟩ = some (.int .i64 k1) ∧ w74.cell? ⟨w.heap.size, 1, none⟩ = some (.slice A1 l1.length c1)) := ⟨⟨pw_cell_below hb74 x70, pw_cell_below hb74 x71⟩⟩); rw [List.nil_append] at ho74; have N74 := Aside0.mk ho74; have B74 := Aside0.mk hb74; (first | (have O2 : Aside0 (w74.heap[w7.heap.size + 1]? = some (.cells #[.int .i64 k1, .slice A1 l1.length c1] 24 (0, 0)) ∧ ∀ k, v74.ownBlock = some k → k ≠ w7.heap.size + 1) := ⟨(hg74.block (w7.heap.size + 1) (by ((try simp) <;> (try omega))) (fun e => by have e9 : w7.heap.size + 1 = w7.heap.size := Option.some.inj e; omega)).trans (by ((with_reducible repeat (first | refine blk_drewN ?_ _ | refine blk_drew ?_)); first | (with_reducible exact blk_new_at (by simp; done)) | ((with_reducible refine blk_alloc ?_ _); (with_reducible repeat (first | refine blk_drewN ?_ _ | refine blk_drew ?_)); (with_reducible exact blk_new_at (by simp; done))))), fun k hk => by rcases hat74 with e | ⟨b, e, hle⟩; (have e9 : k = w7.heap.size := Option.some.inj (hk.symm.trans e); omega); (have e9 : k = b := Option.some.inj (hk.symm.trans e); simp at hle; omega)⟩) | (have O3 : Aside0 (w74.heap[w7.heap.size]? = some (.cells #[.int .i64 k1, .slice A1 l1.length c1] 24 (0, 0)) ∧ ∀ k, v74.ownBlock = some k → k ≠ w7.heap.size) := ⟨(hg74.block (w7.heap.size) (by ((try simp) <;> (try omega))) (fun e => by have e9 : w7.heap.size = w7.heap.size + 1 := Option.some.inj e; omega)).trans (by ((with_reducible repeat (first | refine blk_drewN ?_ _ | refine blk_drew ?_)); first | (with_reducible exact blk_new_at (by simp; done)) | ((with_reducible refine blk_alloc ?_ _); (with_reducible repeat (first | refine blk_drewN ?_ _ | refine blk_drew ?_)); (with_reducible exact blk_new_at (by simp; done))))), fun k hk => by rcases hat74 with e | ⟨b, e, hle⟩; (have e9 : k = w7.heap.size + 1 := Option.some.inj (hk.symm.trans e); omega); (have e9 : k = b := Option.some.inj (hk.symm.trans e); simp at hle; omega)⟩) | skip); clear ho74 hb74 hg74 hat74)
              | ((refine Kd.N_append_rows_step k24 (w0 := w7) w7.heap.size (by rfl) (.tmp 74) (.tmp 76) 35 24 (.agg #[.int .i64 0, .slice none 0 0]) 32 rfl Try.underlying35 info24 rfl (by decide) (by decide) v74 l0 [(⟨k1, l1⟩ : S24)] (some ⟨_, 0, none⟩) 1 1 (fun _ => True) (fun k => k = w7.heap.size + 1 ∨ k < w.heap.size) rfl rfl ?aO ?aR ?aK (fun _ _ => trivial) ?aB ?aS ?aL ?_); (case aO => ((repeat (first | (with_reducible exact (N74.out)) | (with_reducible apply Kd.N_alloc) | (with_reducible apply Kd.N_drewN) | (with_reducible apply Kd.N_drew))); (first | done | fail "not there"))); (case aR => exact F_one24 (x := ⟨k1, l1⟩) (by ((repeat (first | (with_reducible exact (below_then A7_.out A7_.out.size B74.out)) | (with_reducible apply below_drew) | (with_reducible apply pw_below_drewN) | (with_reducible apply below_alloc))); (first | done | fail "not there"))) (by (with_reducible repeat (first | refine blk_drewN ?_ _ | refine blk_drew ?_)); exact O2.out.1) H1.out HC1.out); (case aK => exact (fun k hk => ⟨trivial, fun e => by have := A7_.out.size; have := Kd.N_base N74.out k e.symm; have := O2.out.2 k e.symm; omega⟩)); (case aB => ((repeat (first | (with_reducible exact (B74.out)) | (with_reducible apply below_drew) | (with_reducible apply pw_below_drewN) | (with_reducible apply below_alloc))); (first | done | fail "not there"))); (case aS => have := B74.out.size; simp; omega); (case aL => have := HS.out.1; simp; omega); intro v77 w77 ho77 hb77 hg77 hat77; rw [← HWM.out] at ho77; obtain ⟨A8, c8, rfl, hc8, hC8⟩ := Kd.N_reads ho77; have Y77 : Aside0 (w77.cell? ⟨w.heap.size, 0, none⟩ = some (.int .i64 k1) ∧ w77.cell? ⟨w.heap.size, 1, none⟩ = some (.slice A1 l1.length c1)) := ⟨⟨pw_cell_below hb77 x70, pw_cell_below hb77 x71⟩⟩; have G8 := Aside0.mk ((G7.out.next hb77).add4 hC8); have D8 := Aside0.mk (D7.out.below hb77); have H8 := Aside0.mk hc8; clear ho77 hb77 hg77 hat77 hc8 hC8)
              | ((refine Kd.N_append_rows_step k24 (w0 := w7) w7.heap.size (by rfl) (.tmp 74) (.tmp 76) 35 24 (.agg #[.int .i64 0, .slice none 0 0]) 32 rfl Try.underlying35 info24 rfl (by decide) (by decide) v74 l0 [(⟨k1, l1⟩ : S24)] (some ⟨_, 0, none⟩) 1 1 (fun _ => True) (fun k => k = w7.heap.size ∨ k < w.heap.size) rfl rfl ?aO ?aR ?aK (fun _ _ => trivial) ?aB ?aS ?aL ?_); (case aO => ((repeat (first | (with_reducible exact (N74.out)) | (with_reducible apply Kd.N_alloc) | (with_reducible apply Kd.N_drewN) | (with_reducible apply Kd.N_drew))); (first | done | fail "not there"))); (case aR => exact F_one24 (x := ⟨k1, l1⟩) (by ((repeat (first | (with_reducible exact (below_then A7_.out A7_.out.size B74.out)) | (with_reducible apply below_drew) | (with_reducible apply pw_below_drewN) | (with_reducible apply below_alloc))); (first | done | fail "not there"))) (by (with_reducible repeat (first | refine blk_drewN ?_ _ | refine blk_drew ?_)); exact O3.out.1) H1.out HC1.out); (case aK => exact (fun k hk => ⟨trivial, fun e => by have := A7_.out.size; have := Kd.N_base N74.out k e.symm; have := O3.out.2 k e.symm; omega⟩)); (case aB => ((repeat (first | (with_reducible exact (B74.out)) | (with_reducible apply below_drew) | (with_reducible apply pw_below_drewN) | (with_reducible apply below_alloc))); (first | done | fail "not there"))); (case aS => have := B74.out.size; simp; omega); (case aL => have := HS.out.1; simp; omega); intro v77 w77 ho77 hb77 hg77 hat77; rw [← HWM.out] at ho77; obtain ⟨A8, c8, rfl, hc8, hC8⟩ := Kd.N_reads ho77; have Y77 : Aside0 (w77.cell? ⟨w.heap.size, 0, none⟩ = some (.int .i64 k1) ∧ w77.cell? ⟨w.heap.size, 1, none⟩ = some (.slice A1 l1.length c1)) := ⟨⟨pw_cell_below hb77 x70, pw_cell_below hb77 x71⟩⟩; have G8 := Aside0.mk ((G7.out.next hb77).add4 hC8); have D8 := Aside0.mk (D7.out.below hb77); have H8 := Aside0.mk hc8; clear ho77 hb77 hg77 hat77 hc8 hC8)
              | ((refine Kd.N_append_rows_step k24 (w0 := w7) w7.heap.size (by rfl) (.tmp 74) (.tmp 76) 35 24 (.agg #[.int .i64 0, .slice none 0 0]) 32 rfl Try.underlying35 info24 rfl (by decide) (by decide) v74 l0 [(⟨k1, l1⟩ : S24)] (some ⟨_, 0, none⟩) 1 1 (fun _ => True) (fun k => k = w74.heap.size ∨ k < w.heap.size) rfl rfl ?aO ?aR ?aK (fun _ _ => trivial) ?aB ?aS ?aL ?_); (case aO => ((repeat (first | (with_reducible exact (N74.out)) | (with_reducible apply Kd.N_alloc) | (with_reducible apply Kd.N_drewN) | (with_reducible apply Kd.N_drew))); (first | done | fail "not there"))); (case aR => exact F_one24 (x := ⟨k1, l1⟩) (by ((repeat (first | (with_reducible exact (below_then A7_.out A7_.out.size B74.out)) | (with_reducible apply below_drew) | (with_reducible apply pw_below_drewN) | (with_reducible apply below_alloc))); (first | done | fail "not there"))) (by ((with_reducible repeat (first | refine blk_drewN ?_ _ | refine blk_drew ?_)); first | (with_reducible exact blk_new_at (by simp; done)) | ((with_reducible refine blk_alloc ?_ _); (with_reducible repeat (first | refine blk_drewN ?_ _ | refine blk_drew ?_)); (with_reducible exact blk_new_at (by simp; done))))) H1.out HC1.out); (case aK => exact (fun k hk => ⟨trivial, fun e => by have := A7_.out.size; have := Kd.N_base N74.out k e.symm; have := Kd.N_lt N74.out k e.symm; omega⟩)); (case aB => ((repeat (first | (with_reducible exact (B74.out)) | (with_reducible apply below_drew) | (with_reducible apply pw_below_drewN) | (with_reducible apply below_alloc))); (first | done | fail "not there"))); (case aS => have := B74.out.size; simp; omega); (case aL => have := HS.out.1; simp; omega); intro v77 w77 ho77 hb77 hg77 hat77; rw [← HWM.out] at ho77; obtain ⟨A8, c8, rfl, hc8, hC8⟩ := Kd.N_reads ho77; have Y77 : Aside0 (w77.cell? ⟨w.heap.size, 0, none⟩ = some (.int .i64 k1) ∧ w77.cell? ⟨w.heap.size, 1, none⟩ = some (.slice A1 l1.length c1)) := ⟨⟨pw_cell_below hb77 x70, pw_cell_below hb77 x71⟩⟩; have G8 := Aside0.mk ((G7.out.next hb77).add4 hC8); have D8 := Aside0.mk (D7.out.below hb77); have H8 := Aside0.mk hc8; clear ho77 hb77 hg77 hat77 hc8 hC8))
          all_goals
            (go_wp2_with (first
              | (go_at_call 17; (with_reducible refine (back_C _ A7 c7 m9 H7.out (G8.out.at9 (by simp)) (by have := HML.out; omega) want HM9.out).mono ?_); rintro e_ w9 ⟨A9, c9, rfl, hc9, hC9, hb9⟩; have G9 := Aside0.mk ((G8.out.next hb9).add4 hC9); have D9 := Aside0.mk (D8.out.below hb9); have H9 := Aside0.mk hc9; clear hc9 hC9 hb9)
              | (go_at_call 16; (with_reducible refine (same24_C _ A9 A8 c9 c8 want H9.out (G9.out.at4 (by simp)) H8.out (G9.out.at4 (by simp)) (by have := HML.out; omega) HWW.out).mono ?_); rintro e_ w9_ ⟨rfl, m9_, rfl⟩)
              | (go_at_call 30; (with_reducible refine (open_ok _ _ gd vg bw _ (D9.out.drewN _) m9 bw.length (Nat.le_refl _) HRD.out).mono ?_); rintro e_ w10 ⟨ge, ve, v10, rfl, hd10, hr10, hb10⟩; rw [List.take_length] at hd10; obtain ⟨A10, c10, rfl, hc10, hC10⟩ := Kd.R_reads hr10; have DE10 := Aside0.mk hd10; have DC10 := Aside0.mk ((D9.out.drewN _).below hb10); have H10 := Aside0.mk hc10; have G10 := Aside0.mk (((G9.out.drewN _).next hb10).add9 hC10); clear hd10 hr10 hb10 hc10 hC10)
              | (go_at_call 17; (with_reducible refine (back_C _ A10 c10 m9 H10.out (G10.out.at9 (by simp)) (by have := HML.out; omega) want HM9.out).mono ?_); rintro e_ w11 ⟨A11, c11, rfl, hc11, hC11, hb11⟩; have G11 := Aside0.mk ((G10.out.next hb11).add4 hC11); have DE11 := Aside0.mk (DE10.out.below hb11); have DC11 := Aside0.mk (DC10.out.below hb11); have H11 := Aside0.mk hc11; clear hc11 hC11 hb11)
              | (go_at_call 16; (with_reducible refine (same24_C _ A11 A8 c11 c8 want H11.out (G11.out.at4 (by simp)) H8.out (G11.out.at4 (by simp)) (by have := HML.out; omega) HWW.out).mono ?_); rintro e_ w11_ ⟨rfl, m11, rfl⟩)
              | (go_at_call 26; (with_reducible refine (bytes_ok _ _ ge ve bw _ (DE11.out.drewN _)).mono ?_); rintro e_ w12 ⟨v12, rfl, hr12, hb12⟩; obtain ⟨A12, c12, rfl, hc12, hC12⟩ := Kd.R_reads hr12; have H12 := Aside0.mk hc12; have C12 := Aside0.mk hC12; have G12 := Aside0.mk (((G11.out.drewN _).next hb12).add hC12); have DC12 := Aside0.mk ((DC11.out.drewN _).below hb12); clear hr12 hb12 hc12 hC12)
              | (go_at_call 26; (with_reducible refine (bytes_ok _ _ gd vg bw _ DC12.out).mono ?_); rintro e_ w13 ⟨v13, rfl, hr13, hb13⟩; obtain ⟨A13, c13, rfl, hc13, hC13⟩ := Kd.R_reads hr13; have H13 := Aside0.mk hc13; have G13 := Aside0.mk ((G12.out.next hb13).add hC13); have DC13 := Aside0.mk (DC12.out.below hb13); clear hr13 hb13 hc13 hC13)
              | (go_at_call 15; (with_reducible refine (same_C _ A12 A13 c12 c13 bw bw H12.out (G13.out.at_ (by simp)) H13.out (G13.out.at_ (by simp)) (by have := HBL.out; omega) true (decide_eq_true rfl)).mono ?_); rintro e_ w13_ ⟨rfl, m13, rfl⟩)
              | (go_at_call 27; (with_reducible refine (synced_ok _ _ gd vg bw _ (DC13.out.drewN _)).mono ?_); rintro e_ w13_ ⟨rfl, rfl⟩)
              | (go_at_call 26; (with_reducible refine (bytes_ok _ _ gd vg bw _ (DC13.out.drewN _)).mono ?_); rintro e_ w14 ⟨v14, rfl, hr14, hb14⟩; obtain ⟨A14, c14, rfl, hc14, hC14⟩ := Kd.R_reads hr14; have G14 := Aside0.mk ((G13.out.drewN _).next hb14); clear hr14 hb14 hc14 hC14)
              | (go_at_call 9; (with_reducible refine (alive_any _).mono ?_); rintro e_ w15 ⟨rfl, hb15⟩; have HB15 := Aside0.mk hb15; clear hb15))
             go_ret
             exact ⟨rfl, below_then G14.out.below G14.out.below.size HB15.out⟩)
        · rw [if_neg hkeep] at hwant
          have d5 : decide ((f.length : Int) ≤ keep) = false := decide_eq_false hkeep
          have hwant' := hwant.symm
          subst hwant'
          clear hwant
          clear hkeep hk0 hk1 hmore
          go_wp2_with (first
            | (go_at_call 11; (with_reducible refine (own_C _ k1 A1 c1 l1 H1.out (G0.out.at_ (by simp))).mono ?_); rintro e_ w3 ⟨A3, c3, rfl, hc3, hC3, hb3⟩; have G3 := Aside0.mk ((G0.out.next hb3).add hC3); have S3 := Aside0.mk (HS1.out.next hb3); have H3 := Aside0.mk hc3; clear hc3 hC3 hb3)
            | (go_at_call 10; (with_reducible refine (pframe_C _ k1 A3 c3 l1 H3.out (G3.out.at_ (by simp)) f 0 HFE.out).mono ?_); rintro e_ w4 ⟨A4, c4, rfl, hc4, hC4, hb4⟩; have C4 := Aside0.mk hC4; have S4 := Aside0.mk (S3.out.next hb4); have H4 := Aside0.mk hc4; clear hc4 hC4 hb4)
            | (go_at_call 24; (with_reducible refine (append_ok _ (w.heap.size + 1) (w.heap.size + 1) vd (catJ l0) f _ S4.out.dk A4 c4 C4.out (by have := HFL.out; have := HLE.out; have := N1.out; omega)).mono ?_); rintro e_ w5 ⟨rfl, vd5, hd5, hat5, hb5, hk5⟩; have D5 := Aside0.mk hd5; have B5 := Aside0.mk (S4.out.below.trans hb5); have A5 := Aside0.mk (Cr.all' B5.out); clear hd5 hat5 hb5 hk5)
            | (go_at_call 28; (with_reducible refine (HCR.out _ _ D5.out).mono ?_); rintro e_ w6 ⟨gc, vc, rfl, hd6, hb6⟩; have D6 := Aside0.mk hd6; have A6 := Aside0.mk (below_then A5.out A5.out.size hb6); have Z6 := Aside0.mk ((below_then B5.out (Cr.size' B5.out) hb6)); clear hd6 hb6)
            | (go_at_call 30; (with_reducible refine (open_ok _ _ gc vc z zs D6.out m9 bw.length HZ5.out HZ4.out).mono ?_); rintro e_ w7 ⟨gd, vg, v0, rfl, hd7, hr7, hb7⟩; rw [HZ6.out] at hd7; obtain ⟨A7, c7, rfl, hc7, hC7⟩ := Kd.R_reads hr7; have D7 := Aside0.mk hd7; have A7_ := Aside0.mk (below_then A6.out A6.out.size hb7); have Z7 := Aside0.mk (below_then Z6.out (Cr.size' Z6.out) hb7); have H7 := Aside0.mk hc7; have G7 := Aside0.mk ((Bag.base [] [] [(A0, l0)] A7_.out (by simp) (by simp) (by rintro p hp; simp only [List.mem_cons, List.not_mem_nil, or_false] at hp; rcases hp with rfl; exact HC0.out)).add9 hC7); clear hd7 hr7 hb7 hc7 hC7)
            | (go_at_call 17; (with_reducible refine (back_C _ A7 c7 m9 H7.out (G7.out.at9 (by simp)) (by have := HML.out; omega) l0 HM9.out).mono ?_); rintro e_ w9 ⟨A9, c9, rfl, hc9, hC9, hb9⟩; have G9 := Aside0.mk ((G7.out.next hb9).add4 hC9); have D9 := Aside0.mk (D7.out.below hb9); have H9 := Aside0.mk hc9; clear hc9 hC9 hb9)
            | (go_at_call 16; (with_reducible refine (same24_C _ A9 A0 c9 c0 l0 H9.out (G9.out.at4 (by simp)) H0.out (G9.out.at4 (by simp)) (by have := HML.out; omega) HWW.out).mono ?_); rintro e_ w9_ ⟨rfl, m9_, rfl⟩)
            | (go_at_call 30; (with_reducible refine (open_ok _ _ gd vg bw _ (D9.out.drewN _) m9 bw.length (Nat.le_refl _) HRD.out).mono ?_); rintro e_ w10 ⟨ge, ve, v10, rfl, hd10, hr10, hb10⟩; rw [List.take_length] at hd10; obtain ⟨A10, c10, rfl, hc10, hC10⟩ := Kd.R_reads hr10; have DE10 := Aside0.mk hd10; have DC10 := Aside0.mk ((D9.out.drewN _).below hb10); have H10 := Aside0.mk hc10; have G10 := Aside0.mk (((G9.out.drewN _).next hb10).add9 hC10); clear hd10 hr10 hb10 hc10 hC10)
            | (go_at_call 17; (with_reducible refine (back_C _ A10 c10 m9 H10.out (G10.out.at9 (by simp)) (by have := HML.out; omega) l0 HM9.out).mono ?_); rintro e_ w11 ⟨A11, c11, rfl, hc11, hC11, hb11⟩; have G11 := Aside0.mk ((G10.out.next hb11).add4 hC11); have DE11 := Aside0.mk (DE10.out.below hb11); have DC11 := Aside0.mk (DC10.out.below hb11); have H11 := Aside0.mk hc11; clear hc11 hC11 hb11)
            | (go_at_call 16; (with_reducible refine (same24_C _ A11 A0 c11 c0 l0 H11.out (G11.out.at4 (by simp)) H0.out (G11.out.at4 (by simp)) (by have := HML.out; omega) HWW.out).mono ?_); rintro e_ w11_ ⟨rfl, m11, rfl⟩)
            | (go_at_call 26; (with_reducible refine (bytes_ok _ _ ge ve bw _ (DE11.out.drewN _)).mono ?_); rintro e_ w12 ⟨v12, rfl, hr12, hb12⟩; obtain ⟨A12, c12, rfl, hc12, hC12⟩ := Kd.R_reads hr12; have H12 := Aside0.mk hc12; have C12 := Aside0.mk hC12; have G12 := Aside0.mk (((G11.out.drewN _).next hb12).add hC12); have DC12 := Aside0.mk ((DC11.out.drewN _).below hb12); clear hr12 hb12 hc12 hC12)
            | (go_at_call 26; (with_reducible refine (bytes_ok _ _ gd vg bw _ DC12.out).mono ?_); rintro e_ w13 ⟨v13, rfl, hr13, hb13⟩; obtain ⟨A13, c13, rfl, hc13, hC13⟩ := Kd.R_reads hr13; have H13 := Aside0.mk hc13; have G13 := Aside0.mk ((G12.out.next hb13).add hC13); have DC13 := Aside0.mk (DC12.out.below hb13); clear hr13 hb13 hc13 hC13)
            | (go_at_call 15; (with_reducible refine (same_C _ A12 A13 c12 c13 bw bw H12.out (G13.out.at_ (by simp)) H13.out (G13.out.at_ (by simp)) (by have := HBL.out; omega) true (decide_eq_true rfl)).mono ?_); rintro e_ w13_ ⟨rfl, m13, rfl⟩)
            | (go_at_call 27; (with_reducible refine (synced_ok _ _ gd vg bw _ (DC13.out.drewN _)).mono ?_); rintro e_ w13_ ⟨rfl, rfl⟩)
            | (go_at_call 26; (with_reducible refine (bytes_ok _ _ gd vg bw _ (DC13.out.drewN _)).mono ?_); rintro e_ w14 ⟨v14, rfl, hr14, hb14⟩; obtain ⟨A14, c14, rfl, hc14, hC14⟩ := Kd.R_reads hr14; have G14 := Aside0.mk ((G13.out.drewN _).next hb14); clear hr14 hb14 hc14 hC14)
            | (go_at_call 9; (with_reducible refine (alive_any _).mono ?_); rintro e_ w15 ⟨rfl, hb15⟩; have HB15 := Aside0.mk hb15; clear hb15))
          go_ret
          exact ⟨rfl, below_then G14.out.below G14.out.below.size HB15.out⟩
      · have HFE : Aside0 (framedJ k1 l1 = ([], 1)) := ⟨by unfold framedJ; rw [if_neg hok]⟩
        clear hok
        go_wp2_with (first
          | (go_at_call 11; (with_reducible refine (own_C _ k1 A1 c1 l1 H1.out (G0.out.at_ (by simp))).mono ?_); rintro e_ w3 ⟨A3, c3, rfl, hc3, hC3, hb3⟩; have G3 := Aside0.mk ((G0.out.next hb3).add hC3); have H3 := Aside0.mk hc3; clear hc3 hC3 hb3)
          | (go_at_call 10; (with_reducible refine (pframe_C _ k1 A3 c3 l1 H3.out (G3.out.at_ (by simp)) [] 1 HFE.out).mono ?_); rintro e_ w4 ⟨A4, c4, rfl, hc4, hC4, hb4⟩; have G4 := Aside0.mk ((G3.out.next hb4).add hC4); have H4 := Aside0.mk hc4; clear hc4 hC4 hb4)
          | (go_at_call 9; (with_reducible refine (alive_any _).mono ?_); rintro e_ w6 ⟨rfl, hb6⟩; have HB6 := Aside0.mk hb6; clear hb6))
        go_ret
        exact ⟨rfl, below_then G4.out.below G4.out.below.size HB6.out⟩
theorem journalCrash_any (A0 : Option Addr) (c0 : Nat) (l0 : List S24) (k1 : Int) (A1 : Option Addr) (c1 : Nat) (l1 : List Int) (keep : Int) (w : World) (hc0 : l0.length ≤ c0) (hC0 : Kd.C k24 w A0 l0.length l0) (hB0 : Args.Recs l0)
    (hI1 : Args.I64 k1) (hc1 : l1.length ≤ c1) (hC1 : Kd.C (Kd.int .u8) w A1 l1.length l1) (hB1 : Args.Bytes l1) (hI : Args.I64 keep) :
    Calls Try.prog 7 #[.slice A0 l0.length c0, .agg #[.int .i64 k1, .slice A1 l1.length c1], .int .i64 keep] w fun e w' => e = .returned (.bool true) ∧ Below w.heap.size w w' := by
  by_cases hb : lightB l0 12 = true
  · by_cases h3 : (l1.length : Int) > 300
    · exact crash_out A0 c0 l0 k1 A1 c1 l1 keep w hc0 hC0 true hb (.inr h3)
    · exact crash_main A0 c0 l0 k1 A1 c1 l1 keep w hc0 hC0 hB0 hc1 hC1 hB1 hb h3
  · exact crash_out A0 c0 l0 k1 A1 c1 l1 keep w hc0 hC0 false (by simpa using hb) (.inl rfl)
end Go.Proofs.Ytmcdpgopjfpjeaa.S
