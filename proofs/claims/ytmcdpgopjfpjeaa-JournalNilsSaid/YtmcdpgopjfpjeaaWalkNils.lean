/- Walks of laws of chapter 29. -/
import Derived.Test.YtmcdpgopjfpjeaaPlain
import Derived.Test.YtmcdpgopjfpjeaaArgs
namespace Go.Proofs.Ytmcdpgopjfpjeaa.S
open Go.RowKit Go.Proofs.YtmcdpgopjfpjeaaW.PrintWords Go.Proofs.YtmcdpgopjfpjeaaW.PrintLast Go.Proofs.YtmcdpgopjfpjeaaW.PrintMore
attribute [local go_sem] max2_int min2_int max_two min_two max_three min_three max_four min_four
set_option linter.unusedVariables false
set_option linter.unusedSimpArgs false
theorem C_made (W : World) (m : Nat) (hm : m ≤ 4000000) : Kd.C (Kd.int .u8) (W.alloc (.cells (madeCells #[.int .u8 0] m) 5)) (some ⟨W.heap.size, 0, none⟩) m (List.replicate m 0) := by
  refine Kd.C_of_reads (d := 0) (h1 := fun _ => rfl) ⟨by simp, by omega, fun _ => ⟨_, rfl, fun j hj => ?_⟩⟩
  rw [add_plain, cell_of_row _ _ _ _ _ (0, 0) (blk_new W _)]
  simp [madeCells, hj, Nat.mod_one, List.getD_eq_getElem?_getD]
theorem frame0_ev : ∃ f, journal_Frame.f 100 0 [] = some (f, 0) := by
  have h : (journal_Frame.f 100 0 []).map (fun p => p.2) = some 0 := by decide +kernel
  obtain ⟨⟨f, r⟩, h1, h2⟩ := Option.map_eq_some_iff.1 h
  exact ⟨f, by rw [h1]; exact congrArg some (Prod.ext rfl h2)⟩
set_option maxRecDepth 100000 in
set_option maxHeartbeats 4000000 in
theorem journalNils_any (A : Option Addr) (c : Nat) (b : List Int) (keep : Int) (w : World) (hc : b.length ≤ c) (hC : Kd.C (Kd.int .u8) w A b.length b) (hB : Args.Bytes b) (hI : Args.I64 keep) :
    Calls Try.prog 8 #[.slice A b.length c, .int .i64 keep] w fun e w' => e = .returned (.bool true) ∧ Below w.heap.size w w' := by
  have HC := Aside0.mk hC
  have hmax := Kd.C_max hC
  clear hc hC hB hI
  by_cases hlen : (b.length : Int) > 300
  · have d0 : decide ((300 : Int) < (b.length : Int)) = true := decide_eq_true hlen
    clear hlen
    go_enter Try.func8, Try.ntmps8
    go_wp2_with (go_at_call 9; (with_reducible refine (alive_any _).mono ?_); rintro e w1 ⟨rfl, hb⟩)
    go_ret
    exact ⟨rfl, hb⟩
  · have d0 : decide ((300 : Int) < (b.length : Int)) = false := decide_eq_false hlen
    obtain ⟨m, hm⟩ : ∃ m : Nat, (4000000 : Int) - (b.length : Int) = (m : Int) := ⟨4000000 - b.length, by omega⟩
    have HM := Aside0.mk hm
    have hm4 : m ≤ 4000000 := by omega
    obtain ⟨f0, hf0⟩ := frame0_ev
    have HF0 := Aside0.mk hf0
    have hmk := print_make (P := Try.prog) 22 5 .u8 1 Try.underlying22 info5 (by decide) m (by omega)
    obtain ⟨L1, hL1⟩ : ∃ L1 : List Int, L1 = List.replicate m 0 := ⟨_, rfl⟩
    have hL1m : L1.length = m := by rw [hL1]; simp
    obtain ⟨l3, hl3⟩ : ∃ l3 : List Int, l3 = ([] ++ L1) ++ b := ⟨_, rfl⟩
    have hl3n : l3.length = 4000000 := by rw [hl3]; simp; omega
    have e3 : ((l3.length : Int) == 4000000) = true := beq_iff_eq.mpr (by omega)
    have HA : Aside0 (∀ W : World, Calls Try.prog 29 #[.pointer none, .agg #[.int .i64 0, .slice none 0 0]] W fun e w' => e = .returned (.int .i64 20) ∧ Below W.heap.size W w') := ⟨fun W => add_nil W 100 0 none 0 [] (Kd.C_nil _ _) (Nat.le_refl _) f0 0 hf0⟩
    have HP1 : Aside0 (∀ (W : World) (g : Nat) (A : Option Addr), Dk W g g (.slice none 0 0) [] 0 → Kd.C (Kd.int .u8) W A m L1 → Calls Try.prog 24 #[.pointer (some ⟨g, 0, none⟩), .slice A m m] W fun e w' => e = .returned (.int .i64 0) ∧ AppQ W g g (.slice none 0 0) [] L1 0 w') :=
      ⟨fun W g A h hc => by have := append_ok W g g (.slice none 0 0) [] L1 0 h A m (by rw [hL1m]; exact hc) (by simp; omega); rw [hL1m] at this; exact this⟩
    have HP2 : Aside0 (∀ (W : World) (g : Nat) (v : Value), Dk W g g v ([] ++ L1) 0 → Kd.C (Kd.int .u8) W A b.length b → Calls Try.prog 24 #[.pointer (some ⟨g, 0, none⟩), .slice A b.length c] W fun e w' => e = .returned (.int .i64 0) ∧ (∃ v', Dk w' g g v' l3 0) ∧ Below g W w') :=
      ⟨fun W g v h hc => (append_ok W g g v ([] ++ L1) b 0 h A c hc (by simp; omega)).mono fun e w' ⟨he, v', hd, _, hb, _⟩ => ⟨he, ⟨v', by rw [hl3]; exact hd⟩, hb⟩⟩
    have HP3 : Aside0 (∀ (W : World) (g : Nat) (v : Value) (A : Option Addr), Dk W g g v l3 0 → Calls Try.prog 24 #[.pointer (some ⟨g, 0, none⟩), .slice A 1 1] W fun e w' => e = .returned (.int .i64 17) ∧ W = w') :=
      ⟨fun W g v A h => append_full W g g v l3 0 h A 1 1 (by omega) (by omega)⟩
    have HMD : Aside0 (∀ W : World, Kd.C (Kd.int .u8) (W.alloc (.cells (madeCells #[.int .u8 0] m) 5)) (some ⟨W.heap.size, 0, none⟩) m L1) := ⟨fun W => by rw [hL1]; exact C_made W m hm4⟩
    clear hlen hf0 hmax hL1 hL1m hl3 hl3n hm4
    go_enter Try.func8, Try.ntmps8
    go_wp2_with (first
      | (go_at_call 30; (with_reducible refine (open_nil _).mono ?_); rintro e w1 ⟨rfl, rfl⟩)
      | (go_at_call 24; (with_reducible refine (append_nil _ _ _ _).mono ?_); rintro e w1 ⟨rfl, rfl⟩)
      | (go_at_call 25; (with_reducible refine (sync_nil _).mono ?_); rintro e w1 ⟨rfl, rfl⟩)
      | (go_at_call 26; (with_reducible refine (bytes_nil _).mono ?_); rintro e w1 ⟨rfl, rfl⟩)
      | (go_at_call 27; (with_reducible refine (synced_nil _).mono ?_); rintro e w1 ⟨rfl, rfl⟩)
      | (go_at_call 28; (with_reducible refine (crash_nil _ _).mono ?_); rintro e w1 ⟨rfl, rfl⟩)
      | (go_at_call 29; (with_reducible refine (HA.out _).mono ?_); rintro e w2 ⟨rfl, hb2⟩; have HB2 := Aside0.mk hb2; clear hb2)
      | (go_at_call 23; (with_reducible refine (newDisk_any _).mono ?_); rintro e w3 ⟨rfl, rfl⟩; have HD3 := Aside0.mk ((newDisk_dk w2).alloc (.cells (madeCells #[.int .u8 0] m) 5)); have HM3 := Aside0.mk (HMD.out (w2.alloc (.cells #[.slice none 0 0, .int .i64 0] 78))); rw [World.size_alloc] at HM3; have HB3 := Aside0.mk (below_alloc (below_alloc (Below.refl w2.heap.size w2) (.cells #[.slice none 0 0, .int .i64 0] 78)) (.cells (madeCells #[.int .u8 0] m) 5)))
      | (go_at_call 24; (with_reducible refine (HP1.out _ _ _ HD3.out HM3.out).mono ?_); rintro e w4 ⟨rfl, v4, hd4, _, hb4, _⟩; have HD4 := Aside0.mk hd4; have HB4 := Aside0.mk (HB3.out.trans hb4); clear hd4 hb4)
      | (go_at_call 24; (with_reducible refine (HP2.out _ _ _ HD4.out (Kd.C_below (Kd.C_below HC.out HB2.out) HB4.out)).mono ?_); rintro e w5 ⟨rfl, ⟨v5, hd5⟩, hb5⟩; have HD5 := Aside0.mk (hd5.alloc (.cells #[.int .u8 1] 5)); have HB5 := Aside0.mk (HB4.out.trans hb5); clear hd5 hb5)
      | (go_at_call 24; (with_reducible refine (HP3.out _ _ _ _ HD5.out).mono ?_); rintro e w6 ⟨rfl, rfl⟩)
      | (go_at_call 26; (with_reducible refine (bytes_ok _ _ _ _ _ _ HD5.out).mono ?_); rintro e w7 ⟨v7, rfl, ho7, hb7⟩; obtain ⟨A7, c7, rfl⟩ := Kd.R_slice ho7; have HB7 := Aside0.mk hb7; clear ho7 hb7)
      | (go_at_call 9; (with_reducible refine (alive_any _).mono ?_); rintro e w8 ⟨rfl, hb8⟩; have HB8 := Aside0.mk hb8; clear hb8))
    go_ret
    have B5 := below_then HB2.out HB2.out.size HB5.out
    have B6 := below_alloc B5 (.cells #[.int .u8 1] 5)
    have B7 := below_then B6 B6.size HB7.out
    exact ⟨rfl, below_then B7 B7.size HB8.out⟩
end Go.Proofs.Ytmcdpgopjfpjeaa.S
