/- Walks of laws of chapter 29. -/
import Derived.Test.YtmcdpgopjfpjeaaPlain
import Derived.Test.YtmcdpgopjfpjeaaArgs
import Derived.Deep.RegionHeld3
namespace Go.Proofs.Ytmcdpgopjfpjeaa.S
open Go.RowKit Go.Proofs.YtmcdpgopjfpjeaaW.PrintWords Go.Proofs.YtmcdpgopjfpjeaaW.PrintLast Go.Proofs.YtmcdpgopjfpjeaaW.PrintMore
attribute [local go_sem] max2_int min2_int max_two min_two max_three min_three max_four min_four
set_option linter.unusedVariables false
set_option linter.unusedSimpArgs false
/-- a disk and the row 'all' beside it -/
structure Ds (w wr : World) (g : Nat) (vd v8 : Value) (ld all : List Int) (s : Nat) : Prop where
  dk : Dk wr w.heap.size g vd ld s
  row : Kd.R (Kd.int .u8) 5 wr w.heap.size (fun k => some k ≠ vd.ownBlock ∧ k ≠ g) v8 all
  below : Below w.heap.size w wr
theorem Ds.next {w wr w' : World} {g : Nat} {vd v8 : Value} {ld all : List Int} {s : Nat} (h : Ds w wr g vd v8 ld all s) (hb : Below wr.heap.size wr w') : Ds w w' g vd v8 ld all s :=
  ⟨h.dk.below hb, Kd.R_below h.row hb, below_then h.below h.below.size hb⟩
theorem Ds.drewN {w wr : World} {g : Nat} {vd v8 : Value} {ld all : List Int} {s : Nat} (h : Ds w wr g vd v8 ld all s) (m : Nat) : Ds w (wr.drewN m) g vd v8 ld all s := h.next (pw_below_drewN (Below.refl _ _) m)
theorem Ds.drew {w wr : World} {g : Nat} {vd v8 : Value} {ld all : List Int} {s : Nat} (h : Ds w wr g vd v8 ld all s) : Ds w wr.drew g vd v8 ld all s := h.next (below_drew (Below.refl _ _))
theorem Dk.drew {w : World} {base g : Nat} {v : Value} {l : List Int} {s : Int} (h : Dk w base g v l s) : Dk w.drew base g v l s := h.step rfl (fun _ _ => rfl)
/-- the disk has taken bytes -/
theorem Ds.app {w wr w' : World} {g : Nat} {vd v8 : Value} {ld all x : List Int} {s : Nat} (h : Ds w wr g vd v8 ld all s) (hq : AppQ wr w.heap.size g vd ld x s w') : ∃ vd', Ds w w' g vd' v8 (ld ++ x) all s := by
  obtain ⟨vd', hd, hat, hb, hk⟩ := hq
  refine ⟨vd', hd, ?_, h.below.trans hb⟩
  have h1 := R_but h.row hk (fun k hk' => hk'.2) (fun k hk' => hk'.1)
  refine Kd.R_mono (Kd.R_mono (R_but (Kd.R_bound h.row) hk (fun k hk' => hk'.1.2) (fun k hk' => hk'.1.1)) (fun k hk' => (⟨hk'.1.1, hk'.1.2, hk'.2.2.1⟩ : some k ≠ vd.ownBlock ∧ k ≠ g ∧ k < wr.heap.size))) (fun k hk' => ⟨?_, hk'.2.1⟩)
  rcases hat with e | ⟨b, e, hle⟩
  · rw [e]; exact hk'.1
  · rw [e]; intro e2; injection e2 with e2; have := hk'.2.2; omega
/-- the row has taken bytes -/
theorem Ds.row_app {w wr w' : World} {g : Nat} {vd v8 v8' : Value} {ld all x : List Int} {s : Nat} (h : Ds w wr g vd v8 ld all s) (ho : Kd.R (Kd.int .u8) 5 w' w.heap.size (fun k => some k ≠ vd.ownBlock ∧ k ≠ g) v8' (all ++ x)) (hb : Below w.heap.size w w') (hg : wr.grownBy w' v8.ownBlock) : Ds w w' g vd v8' ld (all ++ x) s := by
  refine ⟨h.dk.step (hg.block g h.dk.lt (Kd.R_ne h.row h.dk.blk (by decide))) (fun k hk => hg.block k (h.dk.row_lt k hk) (fun e => ?_)), ho, hb⟩
  exact (h.row.1 k e.symm).1 hk.symm
theorem Ds.sync {w wr w' : World} {g : Nat} {vd v8 : Value} {ld all : List Int} {s : Nat} (h : Ds w wr g vd v8 ld all s) (hd : Dk w' w.heap.size g vd ld (ld.length : Int)) (hb : Below w.heap.size wr w') (hk : KeepBut wr w' g none) : Ds w w' g vd v8 ld all ld.length :=
  ⟨hd, R_but h.row hk (fun k hk' => hk'.2) (fun k _ => by simp), h.below.trans hb⟩
theorem Ds.fresh {w wr : World} {g : Nat} {vd v8 : Value} {ld all : List Int} {s : Nat} (h : Ds w wr g vd v8 ld all s) : ∀ k, wr.heap.size ≤ k → some k ≠ vd.ownBlock ∧ k ≠ g := fun k hk => ⟨fun e => by have := h.dk.row_lt k e.symm; omega, fun e => by have := h.dk.lt; omega⟩
set_option maxRecDepth 100000 in
set_option maxHeartbeats 8000000 in
theorem journalDisks_any (A0 : Option Addr) (c0 : Nat) (l0 : List (List Int)) (A1 : Option Addr) (c1 : Nat) (l1 : List Bool) (keep : Int) (w : World) (hc0 : l0.length ≤ c0) (hC0 : Kd.C (Kd.slice 5 (Kd.int .u8)) w A0 l0.length l0) (hB0 : ∀ x ∈ l0, Args.Bytes x) (hc1 : l1.length ≤ c1) (hC1 : Kd.C Kd.bool w A1 l1.length l1) (hI : Args.I64 keep) :
    Calls Try.prog 6 #[.slice A0 l0.length c0, .slice A1 l1.length c1, .int .i64 keep] w fun e w' => e = .returned (.bool true) ∧ Below w.heap.size w w' := by
  have HC0 := Aside0.mk hC0
  have HC1 := Aside0.mk hC1
  clear hc0 hC0 hB0 hc1 hC1 hI
  by_cases hl0 : l0.length ≤ 20 ∧ l1.length ≤ 20
  · have d0 : decide ((20 : Int) < (l0.length : Int)) = false := decide_eq_false (by omega)
    have d1 : decide ((20 : Int) < (l1.length : Int)) = false := decide_eq_false (by omega)
    have HL := Aside0.mk hl0
    have hl0' : l0.length ≤ 20 := hl0.1
    have hl1' : l1.length ≤ 20 := hl0.2
    clear hl0
    have HS0 : Aside0 (Ds w (w.alloc (.cells #[.slice none 0 0, .int .i64 0] 78)) w.heap.size (.slice none 0 0) (.slice none 0 0) [] [] 0) := ⟨⟨newDisk_dk w, Kd.R_nil _ _ _ _ _, below_alloc (Below.refl _ _) _⟩⟩
    go_enter Try.func6, Try.ntmps6
    go_wp2_with (go_at_call 23; (with_reducible refine (newDisk_any _).mono ?_); rintro e w1 ⟨rfl, rfl⟩)
    go_loopw [8, 9, 10] (fun v8 v9 v10 wr => ∃ (i s : Nat) (all : List Int) (vd : Value), v10 = .int .i64 i ∧ v9 = .int .i64 s ∧ Aside0 (i ≤ l0.length) ∧ Aside0 (s ≤ all.length ∧ all.length ≤ 500 * i) ∧ Aside0 (Ds w wr w.heap.size vd v8 all all s)) (fun _ _ v10 _ => l0.length - (intOf v10).toNat)
    case atStart => exact ⟨0, 0, [], _, rfl, rfl, ⟨Nat.zero_le _⟩, ⟨by simp⟩, HS0⟩
    case round =>
      obtain ⟨i, s, all, vd, rfl, rfl, HI, HA, HS⟩ := hrel
      obtain ⟨Av, cv, ev, hcv, hCv⟩ := Kd.R_reads HS.out.row
      subst ev
      clear hcv hCv
      by_cases hlt : i < l0.length
      · have q0 : (0 : Int) ≤ (i : Int) := by omega
        have q1 : (i : Int) < (l0.length : Int) := by omega
        obtain ⟨ad, Ax, cx, rfl, hx, hcx, hCx⟩ := at_L2 HC0.out (i : Int) q0 q1
        have hx1 : wr.cell? (ad.add i) = some (.slice Ax (rd_L2 l0 (i : Int)).length cx) := by have := pw_cell_below HS.out.below hx; simpa using this
        obtain ⟨x, hxx⟩ : ∃ x, x = rd_L2 l0 (i : Int) := ⟨_, rfl⟩
        rw [← hxx] at hx1 hCx
        have HCx := Aside0.mk hCx
        have HXW : Aside0 (w.cell? (ad.add i) = some (.slice Ax x.length cx)) := ⟨by rw [hxx]; simpa using hx⟩
        have hil : i < l0.length := hlt
        have hi20 : i < 20 := by omega
        clear hx hcx hCx hxx hlt
        by_cases hbig : (x.length : Int) > 500
        · have d2 : decide ((500 : Int) < (x.length : Int)) = true := decide_eq_true hbig
          clear hbig
          go_wp2_with (go_at_call 9; (with_reducible refine (alive_any _).mono ?_); rintro e w1 ⟨rfl, hb⟩)
          go_ret
          exact ⟨rfl, below_then HS.out.below HS.out.below.size hb⟩
        · have d2 : decide ((500 : Int) < (x.length : Int)) = false := decide_eq_false hbig
          have HX : Aside0 (x.length ≤ 500) := ⟨by omega⟩
          clear hbig
          obtain ⟨y, hy⟩ : ∃ y, y = all ++ x := ⟨_, rfl⟩
          have HY := Aside0.mk hy
          have HYL : Aside0 (y.length = all.length + x.length ∧ y.length ≤ 500 * (i + 1) ∧ y.length ≤ 10000) := ⟨by have := HX.out; have := HA.out; rw [hy, List.length_append]; omega⟩
          have HCx1 := Aside0.mk (Kd.C_below HCx.out HS.out.below)
          have HRM : Aside0 (all.length + x.length ≤ 4000000) := ⟨by have := HYL.out; omega⟩
          have HSM := Aside0.mk (same01_refl y (by have := HYL.out; omega) (y.length + 1) (by omega))
          have eself : ((s : Int) != (s : Int)) = false := by simp
          have eself2 : ((y.length : Int) != (y.length : Int)) = false := by simp
          clear hy
          by_cases hs1 : i < l1.length
          · have d3 : decide ((i : Int) < (l1.length : Int)) = true := decide_eq_true (by omega)
            have q2 : (i : Int) < (l1.length : Int) := by omega
            obtain ⟨ad1, rfl, hy1⟩ := Kd.at_bool HC1.out (i : Int) q0 q2
            rw [Int.toNat_natCast] at hy1
            have HY1 := Aside0.mk hy1
            have hs1' : i < l1.length := hs1
            clear hy1 hs1
            rcases hbv : rdOf false l1 (i : Int) with _ | _
            · rw [hbv] at HY1
              clear hbv
              go_wp2_with (first
                | (go_at_call 24; (with_reducible refine (append_ok _ w.heap.size w.heap.size vd all x s HS.out.dk Ax cx HCx1.out HRM.out).mono ?_); rintro e w2 ⟨rfl, hq⟩; obtain ⟨vd2, hs2⟩ := HS.out.app hq; rw [← HY.out] at hs2; have HS2 := Aside0.mk hs2; have hx2 : w2.cell? (ad.add i) = some (.slice Ax x.length cx) := pw_cell_below hs2.below HXW.out; clear hs2 hq)
                | (at_builtin; refine Kd.R_append_rows (Kd.int .u8) (w0 := w) w.heap.size (by rfl) (.tmp 43) (.tmp 47) 22 5 (.int .u8 0) 1 rfl Try.underlying22 info5 rfl (by decide) (by decide) (.slice Av all.length cv) all x Ax x.length cx (fun k => some k ≠ vd2.ownBlock ∧ k ≠ w.heap.size) (fun _ => False) (by rfl) (by rfl) HS2.out.row (Kd.C_below HCx.out HS2.out.below) (fun _ _ h => h) (fun _ h => h.elim) HS2.out.fresh HS2.out.below HS2.out.below.size (by have := HRM.out; omega) ?_; intro v3 w3 ho3 hb3 hg3 hat3; have hs3 := HS2.out.row_app ho3 hb3 hg3; rw [← HY.out] at hs3; have HS3 := Aside0.mk hs3; obtain ⟨A3, c3, ev3, hc3, _⟩ := Kd.R_reads hs3.row; subst ev3; have HL3 := Aside0.mk hc3; have hy3 : w3.cell? (ad1.add i) = some (.bool false) := pw_cell_below hs3.below HY1.out; clear hs3 ho3 hb3 hg3 hat3 hc3)
                | (go_at_call 26; (with_reducible refine (bytes_ok _ w.heap.size w.heap.size vd2 y _ HS3.out.dk).mono ?_); rintro e w5 ⟨v5, rfl, ho5, hb5⟩; have HS5 := Aside0.mk (HS3.out.next hb5); obtain ⟨A5, c5, ev5, hc5, hC5⟩ := Kd.R_reads ho5; subst ev5; have HC5 := Aside0.mk hC5; have HL5 := Aside0.mk hc5; clear ho5 hb5 hc5 hC5)
                | (go_at_call 15; (with_reducible refine (noonmarkref01_Same.calls (y.length + 1) A5 c5 y A3 c3 y true _ HC5.out HL5.out (Kd.R_reads' HS5.out.row).2.2 HL3.out HSM.out).mono ?_); rintro e w6 ⟨rfl, ⟨m6, rfl⟩⟩; have HS6 := Aside0.mk (HS5.out.drewN m6))
                | (go_at_call 27; (with_reducible refine (synced_ok _ w.heap.size w.heap.size vd2 y s HS6.out.dk).mono ?_); rintro e w7 ⟨rfl, rfl⟩))
              go_roundw
              case rel => exact ⟨i + 1, s, y, vd2, by go_num, rfl, ⟨by omega⟩, ⟨by have := HYL.out; have := HA.out; omega⟩, HS6⟩
              case measure => simp [intOf]; omega
            · rw [hbv] at HY1
              clear hbv
              go_wp2_with (first
                | (go_at_call 24; (with_reducible refine (append_ok _ w.heap.size w.heap.size vd all x s HS.out.dk Ax cx HCx1.out HRM.out).mono ?_); rintro e w2 ⟨rfl, hq⟩; obtain ⟨vd2, hs2⟩ := HS.out.app hq; rw [← HY.out] at hs2; have HS2 := Aside0.mk hs2; have hx2 : w2.cell? (ad.add i) = some (.slice Ax x.length cx) := pw_cell_below hs2.below HXW.out; clear hs2 hq)
                | (at_builtin; refine Kd.R_append_rows (Kd.int .u8) (w0 := w) w.heap.size (by rfl) (.tmp 43) (.tmp 47) 22 5 (.int .u8 0) 1 rfl Try.underlying22 info5 rfl (by decide) (by decide) (.slice Av all.length cv) all x Ax x.length cx (fun k => some k ≠ vd2.ownBlock ∧ k ≠ w.heap.size) (fun _ => False) (by rfl) (by rfl) HS2.out.row (Kd.C_below HCx.out HS2.out.below) (fun _ _ h => h) (fun _ h => h.elim) HS2.out.fresh HS2.out.below HS2.out.below.size (by have := HRM.out; omega) ?_; intro v3 w3 ho3 hb3 hg3 hat3; have hs3 := HS2.out.row_app ho3 hb3 hg3; rw [← HY.out] at hs3; have HS3 := Aside0.mk hs3; obtain ⟨A3, c3, ev3, hc3, _⟩ := Kd.R_reads hs3.row; subst ev3; have HL3 := Aside0.mk hc3; have hy3 : w3.cell? (ad1.add i) = some (.bool true) := pw_cell_below hs3.below HY1.out; clear hs3 ho3 hb3 hg3 hat3 hc3)
                | (go_at_call 25; (with_reducible refine (sync_ok _ w.heap.size w.heap.size vd2 y s HS3.out.dk).mono ?_); rintro e w4 ⟨rfl, hd4, hb4, hk4⟩; have HS4 := Aside0.mk (HS3.out.sync hd4 hb4 hk4); clear hd4 hb4 hk4)
                | (go_at_call 26; (with_reducible refine (bytes_ok _ w.heap.size w.heap.size vd2 y _ HS4.out.dk).mono ?_); rintro e w5 ⟨v5, rfl, ho5, hb5⟩; have HS5 := Aside0.mk (HS4.out.next hb5); obtain ⟨A5, c5, ev5, hc5, hC5⟩ := Kd.R_reads ho5; subst ev5; have HC5 := Aside0.mk hC5; have HL5 := Aside0.mk hc5; clear ho5 hb5 hc5 hC5)
                | (go_at_call 15; (with_reducible refine (noonmarkref01_Same.calls (y.length + 1) A5 c5 y A3 c3 y true _ HC5.out HL5.out (Kd.R_reads' HS5.out.row).2.2 HL3.out HSM.out).mono ?_); rintro e w6 ⟨rfl, ⟨m6, rfl⟩⟩; have HS6 := Aside0.mk (HS5.out.drewN m6))
                | (go_at_call 27; (with_reducible refine (synced_ok _ w.heap.size w.heap.size vd2 y y.length HS6.out.dk).mono ?_); rintro e w7 ⟨rfl, rfl⟩))
              go_roundw
              case rel => exact ⟨i + 1, y.length, y, vd2, by go_num, rfl, ⟨by omega⟩, ⟨by have := HYL.out; have := HA.out; omega⟩, HS6⟩
              case measure => simp [intOf]; omega
          · have d3 : decide ((i : Int) < (l1.length : Int)) = false := decide_eq_false (by omega)
            have d3n : decide (i < l1.length) = false := decide_eq_false hs1
            clear hs1
            go_wp2_with (first
              | (go_at_call 24; (with_reducible refine (append_ok _ w.heap.size w.heap.size vd all x s HS.out.dk Ax cx HCx1.out HRM.out).mono ?_); rintro e w2 ⟨rfl, hq⟩; obtain ⟨vd2, hs2⟩ := HS.out.app hq; rw [← HY.out] at hs2; have HS2 := Aside0.mk hs2; have hx2 : w2.cell? (ad.add i) = some (.slice Ax x.length cx) := pw_cell_below hs2.below HXW.out; clear hs2 hq)
              | (at_builtin; refine Kd.R_append_rows (Kd.int .u8) (w0 := w) w.heap.size (by rfl) (.tmp 43) (.tmp 47) 22 5 (.int .u8 0) 1 rfl Try.underlying22 info5 rfl (by decide) (by decide) (.slice Av all.length cv) all x Ax x.length cx (fun k => some k ≠ vd2.ownBlock ∧ k ≠ w.heap.size) (fun _ => False) (by rfl) (by rfl) HS2.out.row (Kd.C_below HCx.out HS2.out.below) (fun _ _ h => h) (fun _ h => h.elim) HS2.out.fresh HS2.out.below HS2.out.below.size (by have := HRM.out; omega) ?_; intro v3 w3 ho3 hb3 hg3 hat3; have hs3 := HS2.out.row_app ho3 hb3 hg3; rw [← HY.out] at hs3; have HS3 := Aside0.mk hs3; obtain ⟨A3, c3, ev3, hc3, _⟩ := Kd.R_reads hs3.row; subst ev3; have HL3 := Aside0.mk hc3; skip; clear hs3 ho3 hb3 hg3 hat3 hc3)
              | (go_at_call 26; (with_reducible refine (bytes_ok _ w.heap.size w.heap.size vd2 y _ HS3.out.dk).mono ?_); rintro e w5 ⟨v5, rfl, ho5, hb5⟩; have HS5 := Aside0.mk (HS3.out.next hb5); obtain ⟨A5, c5, ev5, hc5, hC5⟩ := Kd.R_reads ho5; subst ev5; have HC5 := Aside0.mk hC5; have HL5 := Aside0.mk hc5; clear ho5 hb5 hc5 hC5)
              | (go_at_call 15; (with_reducible refine (noonmarkref01_Same.calls (y.length + 1) A5 c5 y A3 c3 y true _ HC5.out HL5.out (Kd.R_reads' HS5.out.row).2.2 HL3.out HSM.out).mono ?_); rintro e w6 ⟨rfl, ⟨m6, rfl⟩⟩; have HS6 := Aside0.mk (HS5.out.drewN m6))
              | (go_at_call 27; (with_reducible refine (synced_ok _ w.heap.size w.heap.size vd2 y s HS6.out.dk).mono ?_); rintro e w7 ⟨rfl, rfl⟩))
            go_roundw
            case rel => exact ⟨i + 1, s, y, vd2, by go_num, rfl, ⟨by omega⟩, ⟨by have := HYL.out; have := HA.out; omega⟩, HS6⟩
            case measure => simp [intOf]; omega
      · have HE : Aside0 (i = l0.length) := ⟨by have := HI.out; omega⟩
        have d4 : decide (i < l0.length) = false := decide_eq_false hlt
        obtain ⟨kk, hkk⟩ : ∃ kk, kk = keepJ keep all.length (s : Int) := ⟨_, rfl⟩
        have hkr := keepJ_range keep all.length (s : Int) (by omega) (by have := HA.out; omega)
        rw [← hkk] at hkr
        obtain ⟨k1, hk1⟩ : ∃ k1, k1 = (if keep < 0 then 0 else keep) := ⟨_, rfl⟩
        have e1 : (if keep < 0 then (0 : Int) else keep) = k1 := hk1.symm
        have e2 : (if (all.length : Int) - (s : Int) < k1 then (all.length : Int) - (s : Int) else k1) = kk := by rw [hkk]; unfold keepJ; rw [← hk1]
        obtain ⟨z, hz⟩ : ∃ z, z = all.take ((s : Int) + kk).toNat := ⟨_, rfl⟩
        have hal : all.length ≤ 10000 := by have := HA.out; have := HI.out; omega
        have hzl : z.length ≤ 10000 := by rw [hz, List.length_take]; omega
        have HCR : Aside0 (Calls Try.prog 28 #[.pointer (some ⟨w.heap.size, 0, none⟩), .int .i64 keep] wr (NewQ wr z ((s : Int) + kk))) := ⟨by rw [hz, hkk]; exact crash_ok wr w.heap.size w.heap.size vd all (s : Int) keep HS.out.dk (by omega) (by have := HA.out; omega)⟩
        obtain ⟨i0, hi0, _, hsz, _⟩ := info_parts info5
        obtain ⟨hcut, hA, hcc⟩ := print_take_of (P := Try.prog) (Value.int .u8) 0 22 5 .i64 Try.underlying22 hi0 hsz Av cv all ((s : Int) + kk) (by omega) (by have := HA.out; omega) (Kd.R_reads' HS.out.row).2.1
        rw [← hz] at hcut hA hcc
        have HZ : Aside0 (∀ W : World, Kd.C (Kd.int .u8) W Av all.length all → Kd.C (Kd.int .u8) W Av z.length z) := ⟨fun W hW => Kd.C_of_reads (h1 := fun _ => rfl) (hA W (Kd.reads_of_C hW))⟩
        have HZC := Aside0.mk hcc
        have HVC := Aside0.mk (Kd.R_reads' HS.out.row).2.1
        have HSM := Aside0.mk (same01_refl all (by omega) (all.length + 1) (by omega))
        have HSZ := Aside0.mk (same01_refl z (by omega) (z.length + 1) (by omega))
        have w1 : wrap64 ((all.length : Int) - (s : Int)) = (all.length : Int) - (s : Int) := IntWalk.wrap64_in _ (by have := HA.out; omega)
        have w2 : wrap64 ((s : Int) + kk) = (s : Int) + kk := IntWalk.wrap64_in _ (by omega)
        have ez1 : (((s : Int) + kk) == ((s : Int) + kk)) = true := by simp
        have hsl : s ≤ all.length := HA.out.1
        clear hkk hk1 hz hA hcc hi0 hsz hlt
        go_wp2_with (first
          | (go_at_call 28; (with_reducible refine HCR.out.mono ?_); rintro e w3 ⟨gc, vc, rfl, hdc, hbc⟩; have HDC := Aside0.mk hdc; have HS3 := Aside0.mk (HS.out.next hbc); clear hdc hbc))
        go_region_held3 (fun _ => True) (exact trivial)
          (first
            | (go_at_call 26; (with_reducible refine (bytes_ok _ wr.heap.size gc vc z _ HDC.out.drew).mono ?_); rintro e w4 ⟨v4, rfl, ho4, hb4⟩; have HS4 := Aside0.mk (HS3.out.drew.next hb4); have HDC4 := Aside0.mk (HDC.out.drew.below hb4); obtain ⟨A4, c4, ev4, hc4, hC4⟩ := Kd.R_reads ho4; subst ev4; have HC4 := Aside0.mk hC4; have HL4 := Aside0.mk hc4; clear ho4 hb4 hc4 hC4)
            | (go_at_call 15; (with_reducible refine (noonmarkref01_Same.calls (z.length + 1) A4 c4 z Av cv z true _ HC4.out HL4.out (HZ.out _ (Kd.R_reads' HS4.out.row).2.2) HZC.out HSZ.out).mono ?_); rintro e w5 ⟨rfl, ⟨m5, rfl⟩⟩; have HS5 := Aside0.mk (HS4.out.drewN m5); have HDC5 := Aside0.mk (HDC4.out.drewN m5))
            | (go_at_call 27; (with_reducible refine (synced_ok _ wr.heap.size gc vc z _ HDC5.out).mono ?_); rintro e w7 ⟨rfl, rfl⟩)
            | (go_at_call 26; (with_reducible refine (bytes_ok _ w.heap.size w.heap.size vd all _ HS5.out.dk).mono ?_); rintro e w6 ⟨v6, rfl, ho6, hb6⟩; have HS6 := Aside0.mk (HS5.out.next hb6); obtain ⟨A6, c6, ev6, hc6, hC6⟩ := Kd.R_reads ho6; subst ev6; have HC6 := Aside0.mk hC6; have HL6 := Aside0.mk hc6; clear ho6 hb6 hc6 hC6)
            | (go_at_call 15; (with_reducible refine (noonmarkref01_Same.calls (all.length + 1) A6 c6 all Av cv all true _ HC6.out HL6.out (Kd.R_reads' HS6.out.row).2.2 HVC.out HSM.out).mono ?_); rintro e w7 ⟨rfl, ⟨m7, rfl⟩⟩; have HS7 := Aside0.mk (HS6.out.drewN m7))
            | (go_at_call 27; (with_reducible refine (synced_ok _ w.heap.size w.heap.size vd all _ HS7.out.dk).mono ?_); rintro e w7_ ⟨rfl, rfl⟩)
            | (go_at_call 9; (with_reducible refine (alive_any _).mono ?_); rintro e w8 ⟨rfl, hb8⟩; have HB8 := Aside0.mk hb8; clear hb8))
        go_wp2
        go_ret
        exact ⟨rfl, below_then HS7.out.below HS7.out.below.size HB8.out⟩
  · have HL : Aside0 (¬ (l0.length ≤ 20 ∧ l1.length ≤ 20)) := ⟨hl0⟩
    by_cases h1 : l0.length ≤ 20
    · have d0 : decide ((20 : Int) < (l0.length : Int)) = false := decide_eq_false (by omega)
      have d1 : decide ((20 : Int) < (l1.length : Int)) = true := decide_eq_true (by have := HL.out; omega)
      clear hl0 h1
      go_enter Try.func6, Try.ntmps6
      go_wp2_with (go_at_call 9; (with_reducible refine (alive_any _).mono ?_); rintro e w1 ⟨rfl, hb⟩)
      go_ret
      exact ⟨rfl, hb⟩
    · have d0 : decide ((20 : Int) < (l0.length : Int)) = true := decide_eq_true (by omega)
      clear hl0 h1
      go_enter Try.func6, Try.ntmps6
      go_wp2_with (go_at_call 9; (with_reducible refine (alive_any _).mono ?_); rintro e w1 ⟨rfl, hb⟩)
      go_ret
      exact ⟨rfl, hb⟩
end Go.Proofs.Ytmcdpgopjfpjeaa.S
