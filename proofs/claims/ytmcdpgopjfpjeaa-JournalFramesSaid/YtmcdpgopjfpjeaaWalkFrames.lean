/- Walks of laws of chapter 29. -/
import Derived.Test.YtmcdpgopjfpjeaaCalls
import Derived.Test.YtmcdpgopjfpjeaaS3
import Derived.Test.YtmcdpgopjfpjeaaArgs
import Derived.Deep.RegionHeld3
namespace Go.Proofs.Ytmcdpgopjfpjeaa.S
open Go.RowKit Go.Proofs.YtmcdpgopjfpjeaaW.PrintWords Go.Proofs.YtmcdpgopjfpjeaaW.PrintLast Go.Proofs.YtmcdpgopjfpjeaaW.PrintMore
attribute [local go_sem] max2_int min2_int max_two min_two max_three min_three max_four min_four
set_option linter.unusedVariables false
set_option linter.unusedSimpArgs false
set_option maxRecDepth 100000 in
set_option maxHeartbeats 4000000 in
/-- the guard turns the input away -/
theorem frames_out (k0 : Int) (A0 : Option Addr) (c0 : Nat) (l0 : List Int) (A1 : Option Addr) (c1 : Nat) (l1 : List Int) (w : World) (h : (l1.length : Int) > 3000 ∨ ((l0.length : Int) > 3000 ∧ (l0.length : Int) < 99990) ∨ (l0.length : Int) > 100010) :
    Calls Try.prog 3 #[.agg #[.int .i64 k0, .slice A0 l0.length c0], .slice A1 l1.length c1] w fun e w' => e = .returned (.bool true) ∧ Below w.heap.size w w' := by
  have HH := Aside0.mk h
  clear h
  by_cases h1 : (l1.length : Int) > 3000
  · have d1 : decide ((3000 : Int) < (l1.length : Int)) = true := decide_eq_true h1
    clear h1
    go_enter Try.func3, Try.ntmps3
    go_wp2_with (go_at_call 9; (with_reducible refine (alive_any _).mono ?_); rintro e w1 ⟨rfl, hb⟩)
    go_ret
    exact ⟨rfl, below_then (below_alloc (Below.refl _ _) _) (by simp) hb⟩
  · have d1 : decide ((3000 : Int) < (l1.length : Int)) = false := decide_eq_false h1
    have h2 : (l0.length : Int) > 3000 := by have := HH.out; omega
    have d2 : decide ((3000 : Int) < (l0.length : Int)) = true := decide_eq_true h2
    by_cases h3 : (l0.length : Int) < 99990
    · have d3 : decide ((l0.length : Int) < 99990) = true := decide_eq_true h3
      clear h1 h2 h3
      go_enter Try.func3, Try.ntmps3
      go_wp2_with (go_at_call 9; (with_reducible refine (alive_any _).mono ?_); rintro e w1 ⟨rfl, hb⟩)
      go_ret
      exact ⟨rfl, below_then (below_alloc (Below.refl _ _) _) (by simp) hb⟩
    · have d3 : decide ((l0.length : Int) < 99990) = false := decide_eq_false h3
      have d4 : decide ((100010 : Int) < (l0.length : Int)) = true := decide_eq_true (by have := HH.out; omega)
      clear h1 h2 h3
      go_enter Try.func3, Try.ntmps3
      go_wp2_with (go_at_call 9; (with_reducible refine (alive_any _).mono ?_); rintro e w1 ⟨rfl, hb⟩)
      go_ret
      exact ⟨rfl, below_then (below_alloc (Below.refl _ _) _) (by simp) hb⟩
theorem blk_cell (W : World) (g t : Nat) (cs : Array Value) (i : Nat) (v : Value) (h : W.heap[g]? = some (.cells cs t (0, 0))) (hv : cs[i]? = some v) : W.cell? ⟨g, i, none⟩ = some v := by
  simp [World.cell?, h, hv]
set_option maxRecDepth 100000 in
set_option maxHeartbeats 8000000 in
theorem frames_small (k0 : Int) (A0 : Option Addr) (c0 : Nat) (l0 : List Int) (A1 : Option Addr) (c1 : Nat) (l1 : List Int) (w : World) (h0 : l0.length ≤ 3000) (h1 : l1.length ≤ 3000)
    (hc0 : l0.length ≤ c0) (hC0 : Kd.C (Kd.int .u8) w A0 l0.length l0) (hB0 : Args.Bytes l0) (hc1 : l1.length ≤ c1) (hC1 : Kd.C (Kd.int .u8) w A1 l1.length l1) (hB1 : Args.Bytes l1) :
    Calls Try.prog 3 #[.agg #[.int .i64 k0, .slice A0 l0.length c0], .slice A1 l1.length c1] w fun e w' => e = .returned (.bool true) ∧ Below w.heap.size w w' := by
  have H0 := Aside0.mk hc0
  have H1 := Aside0.mk hc1
  have HB0 := Aside0.mk hB0
  have HB1 := Aside0.mk hB1
  have N0 := Aside0.mk h0
  have N1 := Aside0.mk h1
  have G0 : Aside0 (Bag w (w.alloc (.cells #[.int .i64 k0, .slice A0 l0.length c0] 24)) [(A0, l0), (A1, l1)] [] []) :=
    ⟨(Bag.mk (Below.refl _ _) (by rintro p hp; simp only [List.mem_cons, List.not_mem_nil, or_false] at hp; rcases hp with rfl | rfl <;> assumption) (fun p hp => by cases hp) (fun p hp => by cases hp) : Bag w w [(A0, l0), (A1, l1)] [] []).alloc _⟩
  have X0 : Aside0 ((w.alloc (.cells #[.int .i64 k0, .slice A0 l0.length c0] 24)).heap[w.heap.size]? = some (.cells #[.int .i64 k0, .slice A0 l0.length c0] 24 (0, 0))) := ⟨blk_new w _⟩
  obtain ⟨f, r, hf⟩ : ∃ f r, framedJ k0 l0 = (f, r) := ⟨_, _, rfl⟩
  have hfl : f.length ≤ 4000 := by
    unfold framedJ at hf
    split at hf
    · cases hf; rw [frameJ_len]; omega
    · cases hf; simp
  have HF := Aside0.mk hf
  have HFL := Aside0.mk hfl
  obtain ⟨rs, e, hr1, hr2, he, hrl, hrj⟩ := reads_ev l1 hB1 (by omega)
  obtain ⟨rs4, hrs4⟩ : ∃ rs4, rs4 = rs.map to24 := ⟨_, rfl⟩
  have HRS := Aside0.mk hrs4
  have HR1 := Aside0.mk hr1
  have HR2 : Aside0 (noonmarkref29_Read.f (12 * l1.length + 301) l1 = some (rs4, (e : Int))) := ⟨by rw [hrs4]; exact hr2 _ (by omega)⟩
  have HRL := Aside0.mk hrl
  have HFI : Aside0 (rs4.length ≤ 9223372036854775807 ∧ ∀ x ∈ rs4, x.f1.length ≤ 9223372036854775807) := ⟨by rw [hrs4, List.length_map]; exact Nat.le_trans hrl (by omega), fun x hx => by
    rw [hrs4] at hx
    obtain ⟨y, hy, rfl⟩ := List.mem_map.1 hx
    have := readsJ_fine l1 hB1 _ 0 [] rs e hrj (fun _ hx => by cases hx) y hy
    show y.f1.length ≤ _
    omega⟩
  obtain ⟨s, hs⟩ : ∃ s, crcJ l1 = s := ⟨_, rfl⟩
  have HS := Aside0.mk hs
  have d1 : decide ((3000 : Int) < (l1.length : Int)) = false := decide_eq_false (by omega)
  have d2 : decide ((3000 : Int) < (l0.length : Int)) = false := decide_eq_false (by omega)
  have d4 : decide ((100010 : Int) < (l0.length : Int)) = false := decide_eq_false (by omega)
  have d5 : decide ((3000 : Nat) < l0.length) = false := decide_eq_false (by omega)
  have z1 : (r == r) = true := beq_self_eq_true _
  have z2 : ((e : Int) == (e : Int)) = true := beq_self_eq_true _
  have z3 : (s == s) = true := beq_self_eq_true _
  clear h0 h1 hc0 hC0 hB0 hc1 hC1 hB1 hf hfl hr1 hr2 he hrl hrj hrs4 hs
  go_enter Try.func3, Try.ntmps3
  go_wp2_with (first
    | (go_at_call 11; (with_reducible refine (own_C _ k0 A0 c0 l0 H0.out (G0.out.at_ (by simp))).mono ?_); rintro e_ w1 ⟨A2, c2, rfl, hc2, hC2, hb2⟩; have G1 := Aside0.mk ((G0.out.next hb2).add hC2); have H2 := Aside0.mk hc2; have X1 := Aside0.mk ((hb2.block w.heap.size (by simp)).trans X0.out); clear hc2 hC2 hb2)
    | (go_at_call 10; (with_reducible refine (pframe_C _ k0 A2 c2 l0 H2.out (G1.out.at_ (by simp)) f r HF.out).mono ?_); rintro e_ w2 ⟨A3, c3, rfl, hc3, hC3, hb3⟩; have G2 := Aside0.mk ((G1.out.next hb3).add hC3); have H3 := Aside0.mk hc3; have X2 := ((hb3.block w.heap.size (by have := G1.out.below.size; have := World.block_lt_of_cell? _ _ (blk_cell _ _ _ _ 0 _ X1.out rfl); simpa using this)).trans X1.out); have x20 := blk_cell _ _ _ _ 0 _ X2 rfl; have x21 := blk_cell _ _ _ _ 1 _ X2 rfl; clear hc3 hC3 hb3)
    | (go_at_call 12; (with_reducible refine (rframe_C _ k0 A0 c0 l0 HB0.out H0.out (G2.out.at_ (by simp)) f r HF.out).mono ?_); rintro e_ w3 ⟨A4, c4, rfl, hc4, hC4, hb4⟩; have G3 := Aside0.mk ((G2.out.next hb4).add hC4); have H4 := Aside0.mk hc4; clear hc4 hC4 hb4)
    | (go_at_call 13; (with_reducible refine (pread_C _ A1 c1 l1 H1.out (G3.out.at_ (by simp)) rs e HR1.out).mono ?_); rintro e_ w4 ⟨A5, c5, rfl, hc5, hC5, hb5⟩; have G4 := Aside0.mk ((G3.out.next hb5).add9 hC5); have H5 := Aside0.mk hc5; clear hc5 hC5 hb5)
    | (go_at_call 14; (with_reducible refine (rread_C _ A1 c1 l1 H1.out (G4.out.at_ (by simp)) rs4 e _ HR2.out).mono ?_); rintro e_ w5 ⟨A6, c6, rfl, hc6, hC6, hb6⟩; have G5 := Aside0.mk ((G4.out.next hb6).add4 hC6); have H6 := Aside0.mk hc6; clear hc6 hC6 hb6)
    | (go_at_call 15; (with_reducible refine (same_C _ A3 A4 c3 c4 f f H3.out (G5.out.at_ (by simp)) H4.out (G5.out.at_ (by simp)) (by have := HFL.out; omega) true (decide_eq_true rfl)).mono ?_); rintro e_ w6 ⟨rfl, m6, rfl⟩; have G6 := Aside0.mk (G5.out.drewN m6))
    | (go_at_call 17; (with_reducible refine (back_C _ A5 c5 rs H5.out (G6.out.at9 (by simp)) (by have := HRL.out; have := N1.out; omega) rs4 HRS.out).mono ?_); rintro e_ w7 ⟨A7, c7, rfl, hc7, hC7, hb7⟩; have G7 := Aside0.mk ((G6.out.next hb7).add4 hC7); have H7 := Aside0.mk hc7; clear hc7 hC7 hb7)
    | (go_at_call 16; (with_reducible refine (same24_C _ A7 A6 c7 c6 rs4 H7.out (G7.out.at4 (by simp)) H6.out (G7.out.at4 (by simp)) HFI.out.1 HFI.out.2).mono ?_); rintro e_ w8 ⟨rfl, m8, rfl⟩)
    | (go_at_call 18; (with_reducible refine (psum_C _ A1 c1 l1 (by have := N1.out; omega) H1.out ((G7.out.drewN _).at_ (by simp)) s HS.out).mono ?_); rintro e_ w9 ⟨rfl, m9, rfl⟩)
    | (go_at_call 19; (with_reducible refine (rsum_C _ A1 c1 l1 HB1.out (by have := N1.out; omega) H1.out ((G7.out.drewN _).at_ (by simp)) s HS.out).mono ?_); rintro e_ w10 ⟨rfl, m10, rfl⟩)
    | (go_at_call 9; (with_reducible refine (alive_any _).mono ?_); rintro e_ w11 ⟨rfl, hb11⟩; have HB11 := Aside0.mk hb11; clear hb11))
  go_ret
  exact ⟨rfl, below_then (G7.out.drewN _).below (G7.out.drewN _).below.size HB11.out⟩
set_option maxRecDepth 100000 in
set_option maxHeartbeats 8000000 in
theorem frames_big_ok (k0 : Int) (A0 : Option Addr) (c0 : Nat) (l0 : List Int) (A1 : Option Addr) (c1 : Nat) (l1 : List Int) (w : World) (h0 : 99990 ≤ l0.length ∧ l0.length ≤ 100010) (h1 : l1.length ≤ 3000)
    (hc0 : l0.length ≤ c0) (hC0 : Kd.C (Kd.int .u8) w A0 l0.length l0) (hok : 0 ≤ k0 ∧ k0 ≤ 255) (hn : l0.length ≤ 100000) :
    Calls Try.prog 3 #[.agg #[.int .i64 k0, .slice A0 l0.length c0], .slice A1 l1.length c1] w fun e w' => e = .returned (.bool true) ∧ Below w.heap.size w w' := by
  have H0 := Aside0.mk hc0
  have N0 := Aside0.mk h0
  have G0 : Aside0 (Bag w (w.alloc (.cells #[.int .i64 k0, .slice A0 l0.length c0] 24)) [(A0, l0)] [] []) :=
    ⟨(Bag.mk (Below.refl _ _) (by rintro p hp; simp only [List.mem_cons, List.not_mem_nil, or_false] at hp; rcases hp with rfl; assumption) (fun p hp => by cases hp) (fun p hp => by cases hp) : Bag w w [(A0, l0)] [] []).alloc _⟩
  have X0 : Aside0 ((w.alloc (.cells #[.int .i64 k0, .slice A0 l0.length c0] 24)).heap[w.heap.size]? = some (.cells #[.int .i64 k0, .slice A0 l0.length c0] 24 (0, 0))) := ⟨blk_new w _⟩
  obtain ⟨f, hf, hfl⟩ : ∃ f, framedJ k0 l0 = (f, 0) ∧ f.length = l0.length + 10 := ⟨frameJ k0 l0, by unfold framedJ; rw [if_pos (okJ_spec.2 ⟨hok.1, hok.2, hn⟩)], frameJ_len _ _⟩
  have HF := Aside0.mk hf
  have HFL := Aside0.mk hfl
  have d1 : decide ((3000 : Int) < (l1.length : Int)) = false := decide_eq_false (by omega)
  have d2 : decide ((3000 : Int) < (l0.length : Int)) = true := decide_eq_true (by omega)
  have d3 : decide ((l0.length : Int) < 99990) = false := decide_eq_false (by omega)
  have d4 : decide ((100010 : Int) < (l0.length : Int)) = false := decide_eq_false (by omega)
  have d5 : decide ((3000 : Nat) < l0.length) = true := decide_eq_true (by omega)
  have e1 : decide ((l0.length : Int) ≤ 100000) = true := decide_eq_true (by omega)
  have e1n : decide (l0.length ≤ 100000) = true := decide_eq_true (by omega)
  have e2 : decide ((0 : Int) ≤ k0) = true := decide_eq_true (by omega)
  have e3 : decide (k0 ≤ 255) = true := decide_eq_true (by omega)
  have e4 : ((f.length : Int) == (l0.length : Int) + 10) = true := beq_iff_eq.2 (by omega)
  have e6 : wrap64 ((l0.length : Int) + 10) = (l0.length : Int) + 10 := IntWalk.wrap64_in _ (by omega)
  have e5 : IntKind.i64.wrap ((l0.length : Int) + 10) = (l0.length : Int) + 10 := IntWalk.i64_in _ (by omega)
  clear h0 h1 hc0 hC0 hf hfl hok hn
  go_enter Try.func3, Try.ntmps3
  go_wp2_with (first
    | (go_at_call 11; (with_reducible refine (own_C _ k0 A0 c0 l0 H0.out (G0.out.at_ (by simp))).mono ?_); rintro e_ w1 ⟨A2, c2, rfl, hc2, hC2, hb2⟩; have G1 := Aside0.mk ((G0.out.next hb2).add hC2); have H2 := Aside0.mk hc2; have X1 := Aside0.mk ((hb2.block w.heap.size (by simp)).trans X0.out); clear hc2 hC2 hb2)
    | (go_at_call 10; (with_reducible refine (pframe_C _ k0 A2 c2 l0 H2.out (G1.out.at_ (by simp)) f 0 HF.out).mono ?_); rintro e_ w2 ⟨A3, c3, rfl, hc3, hC3, hb3⟩; have G2 := Aside0.mk ((G1.out.next hb3).add hC3); have H3 := Aside0.mk hc3; have X2 := ((hb3.block w.heap.size (by have := G1.out.below.size; have := World.block_lt_of_cell? _ _ (blk_cell _ _ _ _ 0 _ X1.out rfl); simpa using this)).trans X1.out); have x20 := blk_cell _ _ _ _ 0 _ X2 rfl; have x21 := blk_cell _ _ _ _ 1 _ X2 rfl; clear hc3 hC3 hb3)
    | (go_at_call 9; (with_reducible refine (alive_any _).mono ?_); rintro e_ w11 ⟨rfl, hb11⟩; have HB11 := Aside0.mk hb11; clear hb11))
  go_ret
  exact ⟨rfl, below_then G2.out.below G2.out.below.size HB11.out⟩
set_option maxRecDepth 100000 in
set_option maxHeartbeats 8000000 in
theorem frames_big_long (k0 : Int) (A0 : Option Addr) (c0 : Nat) (l0 : List Int) (A1 : Option Addr) (c1 : Nat) (l1 : List Int) (w : World) (h0 : 99990 ≤ l0.length ∧ l0.length ≤ 100010) (h1 : l1.length ≤ 3000)
    (hc0 : l0.length ≤ c0) (hC0 : Kd.C (Kd.int .u8) w A0 l0.length l0) (hn : ¬ l0.length ≤ 100000) :
    Calls Try.prog 3 #[.agg #[.int .i64 k0, .slice A0 l0.length c0], .slice A1 l1.length c1] w fun e w' => e = .returned (.bool true) ∧ Below w.heap.size w w' := by
  have H0 := Aside0.mk hc0
  have N0 := Aside0.mk h0
  have G0 : Aside0 (Bag w (w.alloc (.cells #[.int .i64 k0, .slice A0 l0.length c0] 24)) [(A0, l0)] [] []) :=
    ⟨(Bag.mk (Below.refl _ _) (by rintro p hp; simp only [List.mem_cons, List.not_mem_nil, or_false] at hp; rcases hp with rfl; assumption) (fun p hp => by cases hp) (fun p hp => by cases hp) : Bag w w [(A0, l0)] [] []).alloc _⟩
  have X0 : Aside0 ((w.alloc (.cells #[.int .i64 k0, .slice A0 l0.length c0] 24)).heap[w.heap.size]? = some (.cells #[.int .i64 k0, .slice A0 l0.length c0] 24 (0, 0))) := ⟨blk_new w _⟩
  obtain ⟨f, hf, hfl⟩ : ∃ f, framedJ k0 l0 = (f, 1) ∧ f = [] := ⟨[], by unfold framedJ; rw [if_neg (fun e => by have := okJ_spec.1 e; omega)], rfl⟩
  have HF := Aside0.mk hf
  have HFL := Aside0.mk hfl
  have d1 : decide ((3000 : Int) < (l1.length : Int)) = false := decide_eq_false (by omega)
  have d2 : decide ((3000 : Int) < (l0.length : Int)) = true := decide_eq_true (by omega)
  have d3 : decide ((l0.length : Int) < 99990) = false := decide_eq_false (by omega)
  have d4 : decide ((100010 : Int) < (l0.length : Int)) = false := decide_eq_false (by omega)
  have d5 : decide ((3000 : Nat) < l0.length) = true := decide_eq_true (by omega)
  have e1 : decide ((l0.length : Int) ≤ 100000) = false := decide_eq_false (by omega)
  have e1n : decide (l0.length ≤ 100000) = false := decide_eq_false (by omega)
  clear h0 h1 hc0 hC0 hf hfl hn
  go_enter Try.func3, Try.ntmps3
  go_wp2_with (first
    | (go_at_call 11; (with_reducible refine (own_C _ k0 A0 c0 l0 H0.out (G0.out.at_ (by simp))).mono ?_); rintro e_ w1 ⟨A2, c2, rfl, hc2, hC2, hb2⟩; have G1 := Aside0.mk ((G0.out.next hb2).add hC2); have H2 := Aside0.mk hc2; have X1 := Aside0.mk ((hb2.block w.heap.size (by simp)).trans X0.out); clear hc2 hC2 hb2)
    | (go_at_call 10; (with_reducible refine (pframe_C _ k0 A2 c2 l0 H2.out (G1.out.at_ (by simp)) f 1 HF.out).mono ?_); rintro e_ w2 ⟨A3, c3, rfl, hc3, hC3, hb3⟩; have G2 := Aside0.mk ((G1.out.next hb3).add hC3); have H3 := Aside0.mk hc3; have X2 := ((hb3.block w.heap.size (by have := G1.out.below.size; have := World.block_lt_of_cell? _ _ (blk_cell _ _ _ _ 0 _ X1.out rfl); simpa using this)).trans X1.out); have x20 := blk_cell _ _ _ _ 0 _ X2 rfl; have x21 := blk_cell _ _ _ _ 1 _ X2 rfl; clear hc3 hC3 hb3)
    | (go_at_call 9; (with_reducible refine (alive_any _).mono ?_); rintro e_ w11 ⟨rfl, hb11⟩; have HB11 := Aside0.mk hb11; clear hb11))
  go_ret
  exact ⟨rfl, below_then G2.out.below G2.out.below.size HB11.out⟩
set_option maxRecDepth 100000 in
set_option maxHeartbeats 8000000 in
theorem frames_big_low (k0 : Int) (A0 : Option Addr) (c0 : Nat) (l0 : List Int) (A1 : Option Addr) (c1 : Nat) (l1 : List Int) (w : World) (h0 : 99990 ≤ l0.length ∧ l0.length ≤ 100010) (h1 : l1.length ≤ 3000)
    (hc0 : l0.length ≤ c0) (hC0 : Kd.C (Kd.int .u8) w A0 l0.length l0) (hn : l0.length ≤ 100000) (hk : k0 < 0) :
    Calls Try.prog 3 #[.agg #[.int .i64 k0, .slice A0 l0.length c0], .slice A1 l1.length c1] w fun e w' => e = .returned (.bool true) ∧ Below w.heap.size w w' := by
  have H0 := Aside0.mk hc0
  have N0 := Aside0.mk h0
  have G0 : Aside0 (Bag w (w.alloc (.cells #[.int .i64 k0, .slice A0 l0.length c0] 24)) [(A0, l0)] [] []) :=
    ⟨(Bag.mk (Below.refl _ _) (by rintro p hp; simp only [List.mem_cons, List.not_mem_nil, or_false] at hp; rcases hp with rfl; assumption) (fun p hp => by cases hp) (fun p hp => by cases hp) : Bag w w [(A0, l0)] [] []).alloc _⟩
  have X0 : Aside0 ((w.alloc (.cells #[.int .i64 k0, .slice A0 l0.length c0] 24)).heap[w.heap.size]? = some (.cells #[.int .i64 k0, .slice A0 l0.length c0] 24 (0, 0))) := ⟨blk_new w _⟩
  obtain ⟨f, hf, hfl⟩ : ∃ f, framedJ k0 l0 = (f, 1) ∧ f = [] := ⟨[], by unfold framedJ; rw [if_neg (fun e => by have := okJ_spec.1 e; omega)], rfl⟩
  have HF := Aside0.mk hf
  have HFL := Aside0.mk hfl
  have d1 : decide ((3000 : Int) < (l1.length : Int)) = false := decide_eq_false (by omega)
  have d2 : decide ((3000 : Int) < (l0.length : Int)) = true := decide_eq_true (by omega)
  have d3 : decide ((l0.length : Int) < 99990) = false := decide_eq_false (by omega)
  have d4 : decide ((100010 : Int) < (l0.length : Int)) = false := decide_eq_false (by omega)
  have d5 : decide ((3000 : Nat) < l0.length) = true := decide_eq_true (by omega)
  have e1 : decide ((l0.length : Int) ≤ 100000) = true := decide_eq_true (by omega)
  have e1n : decide (l0.length ≤ 100000) = true := decide_eq_true (by omega)
  have e2 : decide ((0 : Int) ≤ k0) = false := decide_eq_false (by omega)
  clear h0 h1 hc0 hC0 hf hfl hn hk
  go_enter Try.func3, Try.ntmps3
  go_wp2_with (first
    | (go_at_call 11; (with_reducible refine (own_C _ k0 A0 c0 l0 H0.out (G0.out.at_ (by simp))).mono ?_); rintro e_ w1 ⟨A2, c2, rfl, hc2, hC2, hb2⟩; have G1 := Aside0.mk ((G0.out.next hb2).add hC2); have H2 := Aside0.mk hc2; have X1 := Aside0.mk ((hb2.block w.heap.size (by simp)).trans X0.out); clear hc2 hC2 hb2)
    | (go_at_call 10; (with_reducible refine (pframe_C _ k0 A2 c2 l0 H2.out (G1.out.at_ (by simp)) f 1 HF.out).mono ?_); rintro e_ w2 ⟨A3, c3, rfl, hc3, hC3, hb3⟩; have G2 := Aside0.mk ((G1.out.next hb3).add hC3); have H3 := Aside0.mk hc3; have X2 := ((hb3.block w.heap.size (by have := G1.out.below.size; have := World.block_lt_of_cell? _ _ (blk_cell _ _ _ _ 0 _ X1.out rfl); simpa using this)).trans X1.out); have x20 := blk_cell _ _ _ _ 0 _ X2 rfl; have x21 := blk_cell _ _ _ _ 1 _ X2 rfl; clear hc3 hC3 hb3)
    | (go_at_call 9; (with_reducible refine (alive_any _).mono ?_); rintro e_ w11 ⟨rfl, hb11⟩; have HB11 := Aside0.mk hb11; clear hb11))
  go_ret
  exact ⟨rfl, below_then G2.out.below G2.out.below.size HB11.out⟩
set_option maxRecDepth 100000 in
set_option maxHeartbeats 8000000 in
theorem frames_big_high (k0 : Int) (A0 : Option Addr) (c0 : Nat) (l0 : List Int) (A1 : Option Addr) (c1 : Nat) (l1 : List Int) (w : World) (h0 : 99990 ≤ l0.length ∧ l0.length ≤ 100010) (h1 : l1.length ≤ 3000)
    (hc0 : l0.length ≤ c0) (hC0 : Kd.C (Kd.int .u8) w A0 l0.length l0) (hn : l0.length ≤ 100000) (hk : k0 > 255) :
    Calls Try.prog 3 #[.agg #[.int .i64 k0, .slice A0 l0.length c0], .slice A1 l1.length c1] w fun e w' => e = .returned (.bool true) ∧ Below w.heap.size w w' := by
  have H0 := Aside0.mk hc0
  have N0 := Aside0.mk h0
  have G0 : Aside0 (Bag w (w.alloc (.cells #[.int .i64 k0, .slice A0 l0.length c0] 24)) [(A0, l0)] [] []) :=
    ⟨(Bag.mk (Below.refl _ _) (by rintro p hp; simp only [List.mem_cons, List.not_mem_nil, or_false] at hp; rcases hp with rfl; assumption) (fun p hp => by cases hp) (fun p hp => by cases hp) : Bag w w [(A0, l0)] [] []).alloc _⟩
  have X0 : Aside0 ((w.alloc (.cells #[.int .i64 k0, .slice A0 l0.length c0] 24)).heap[w.heap.size]? = some (.cells #[.int .i64 k0, .slice A0 l0.length c0] 24 (0, 0))) := ⟨blk_new w _⟩
  obtain ⟨f, hf, hfl⟩ : ∃ f, framedJ k0 l0 = (f, 1) ∧ f = [] := ⟨[], by unfold framedJ; rw [if_neg (fun e => by have := okJ_spec.1 e; omega)], rfl⟩
  have HF := Aside0.mk hf
  have HFL := Aside0.mk hfl
  have d1 : decide ((3000 : Int) < (l1.length : Int)) = false := decide_eq_false (by omega)
  have d2 : decide ((3000 : Int) < (l0.length : Int)) = true := decide_eq_true (by omega)
  have d3 : decide ((l0.length : Int) < 99990) = false := decide_eq_false (by omega)
  have d4 : decide ((100010 : Int) < (l0.length : Int)) = false := decide_eq_false (by omega)
  have d5 : decide ((3000 : Nat) < l0.length) = true := decide_eq_true (by omega)
  have e1 : decide ((l0.length : Int) ≤ 100000) = true := decide_eq_true (by omega)
  have e1n : decide (l0.length ≤ 100000) = true := decide_eq_true (by omega)
  have e2 : decide ((0 : Int) ≤ k0) = true := decide_eq_true (by omega)
  have e3 : decide (k0 ≤ 255) = false := decide_eq_false (by omega)
  clear h0 h1 hc0 hC0 hf hfl hn hk
  go_enter Try.func3, Try.ntmps3
  go_wp2_with (first
    | (go_at_call 11; (with_reducible refine (own_C _ k0 A0 c0 l0 H0.out (G0.out.at_ (by simp))).mono ?_); rintro e_ w1 ⟨A2, c2, rfl, hc2, hC2, hb2⟩; have G1 := Aside0.mk ((G0.out.next hb2).add hC2); have H2 := Aside0.mk hc2; have X1 := Aside0.mk ((hb2.block w.heap.size (by simp)).trans X0.out); clear hc2 hC2 hb2)
    | (go_at_call 10; (with_reducible refine (pframe_C _ k0 A2 c2 l0 H2.out (G1.out.at_ (by simp)) f 1 HF.out).mono ?_); rintro e_ w2 ⟨A3, c3, rfl, hc3, hC3, hb3⟩; have G2 := Aside0.mk ((G1.out.next hb3).add hC3); have H3 := Aside0.mk hc3; have X2 := ((hb3.block w.heap.size (by have := G1.out.below.size; have := World.block_lt_of_cell? _ _ (blk_cell _ _ _ _ 0 _ X1.out rfl); simpa using this)).trans X1.out); have x20 := blk_cell _ _ _ _ 0 _ X2 rfl; have x21 := blk_cell _ _ _ _ 1 _ X2 rfl; clear hc3 hC3 hb3)
    | (go_at_call 9; (with_reducible refine (alive_any _).mono ?_); rintro e_ w11 ⟨rfl, hb11⟩; have HB11 := Aside0.mk hb11; clear hb11))
  go_ret
  exact ⟨rfl, below_then G2.out.below G2.out.below.size HB11.out⟩
theorem journalFrames_any (k0 : Int) (A0 : Option Addr) (c0 : Nat) (l0 : List Int) (A1 : Option Addr) (c1 : Nat) (l1 : List Int) (w : World) (hI : Args.I64 k0)
    (hc0 : l0.length ≤ c0) (hC0 : Kd.C (Kd.int .u8) w A0 l0.length l0) (hB0 : Args.Bytes l0) (hc1 : l1.length ≤ c1) (hC1 : Kd.C (Kd.int .u8) w A1 l1.length l1) (hB1 : Args.Bytes l1) :
    Calls Try.prog 3 #[.agg #[.int .i64 k0, .slice A0 l0.length c0], .slice A1 l1.length c1] w fun e w' => e = .returned (.bool true) ∧ Below w.heap.size w w' := by
  by_cases ho : (l1.length : Int) > 3000 ∨ ((l0.length : Int) > 3000 ∧ (l0.length : Int) < 99990) ∨ (l0.length : Int) > 100010
  · exact frames_out k0 A0 c0 l0 A1 c1 l1 w ho
  · by_cases hs : l0.length ≤ 3000
    · exact frames_small k0 A0 c0 l0 A1 c1 l1 w hs (by omega) hc0 hC0 hB0 hc1 hC1 hB1
    · by_cases hn : l0.length ≤ 100000
      · by_cases h0 : k0 < 0
        · exact frames_big_low k0 A0 c0 l0 A1 c1 l1 w (by omega) (by omega) hc0 hC0 hn h0
        · by_cases h2 : k0 > 255
          · exact frames_big_high k0 A0 c0 l0 A1 c1 l1 w (by omega) (by omega) hc0 hC0 hn h2
          · exact frames_big_ok k0 A0 c0 l0 A1 c1 l1 w (by omega) (by omega) hc0 hC0 (by omega) hn
      · exact frames_big_long k0 A0 c0 l0 A1 c1 l1 w (by omega) (by omega) hc0 hC0 hn
end Go.Proofs.Ytmcdpgopjfpjeaa.S
