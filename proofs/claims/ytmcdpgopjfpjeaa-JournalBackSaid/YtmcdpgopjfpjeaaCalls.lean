/- The calls of chapter 29's laws, in the rows' reading form; and what is read beside them. -/
import Derived.Test.YtmcdpgopjfpjeaaRr
import Derived.Test.YtmcdpgopjfpjeaaS6
namespace Go.Proofs.Ytmcdpgopjfpjeaa.S
open Go.RowKit Go.Proofs.YtmcdpgopjfpjeaaW.PrintWords Go.Proofs.YtmcdpgopjfpjeaaW.PrintLast Go.Proofs.YtmcdpgopjfpjeaaW.PrintMore
set_option linter.unusedVariables false
set_option linter.unusedSimpArgs false
theorem V_ofC {α : Type} {d : Kd α} (hd : Kd.Heap d) {e b c : Nat} {W : World} {A : Option Addr} {l : List α} (hc : l.length ≤ c) (h : d.C W A l.length l) : Kd.V d e W b (fun _ => True) (.slice A l.length c) l :=
  Kd.V_mk hc (fun W' hW => hd.C (fun k hk => hW k trivial hk) h)
/-- a row handed back, as it reads -/
def Row {α : Type} (d : Kd α) (W : World) (v : Value) (l : List α) : Prop := ∃ A c, v = .slice A l.length c ∧ l.length ≤ c ∧ d.C W A l.length l
theorem row_R {α : Type} {d : Kd α} {e base : Nat} {ok : Nat → Prop} {W : World} {v : Value} {l : List α} (h : d.R e W base ok v l) : Row d W v l := Kd.R_reads h
theorem row_N {α : Type} {d : Kd α} {e base : Nat} {ok : Nat → Prop} {W : World} {v : Value} {l : List α} (h : d.N e W base ok v l) : Row d W v l := Kd.N_reads h
theorem row_V {α : Type} {d : Kd α} {e base : Nat} {ok : Nat → Prop} {W : World} {v : Value} {l : List α} (h : d.V e W base ok v l) : Row d W v l := by
  obtain ⟨A, c, rfl⟩ := Kd.V_slice h
  obtain ⟨_, h1, h2⟩ := Kd.V_reads' h
  exact ⟨A, c, rfl, h1, h2⟩
theorem own_C (W : World) (k : Int) (A : Option Addr) (c : Nat) (l : List Int) (hc : l.length ≤ c) (h : Kd.C (Kd.int .u8) W A l.length l) :
    Calls Try.prog 11 #[.agg #[.int .i64 k, .slice A l.length c]] W fun e w' => ∃ A' c', e = .returned (.agg #[.int .i64 k, .slice A' l.length c']) ∧ l.length ≤ c' ∧ Kd.C (Kd.int .u8) w' A' l.length l ∧ Below W.heap.size W w' :=
  (noonmarklaw29_Own.calls k (fun _ => True) A c l k l W (V_ofC (Kd.heap_int .u8) hc h) rfl).mono fun e w' ⟨v, he, hv, hb⟩ => by
    obtain ⟨A', c', rfl, h1, h2⟩ := row_V hv
    exact ⟨A', c', he, h1, h2, hb⟩
theorem pframe_C (W : World) (k : Int) (A : Option Addr) (c : Nat) (l : List Int) (hc : l.length ≤ c) (h : Kd.C (Kd.int .u8) W A l.length l) (f : List Int) (r : Int) (hf : framedJ k l = (f, r)) :
    Calls Try.prog 10 #[.agg #[.int .i64 k, .slice A l.length c]] W fun e w' => ∃ A' c', e = .returned (.tuple #[.slice A' f.length c', .int .i64 r]) ∧ f.length ≤ c' ∧ Kd.C (Kd.int .u8) w' A' f.length f ∧ Below W.heap.size W w' :=
  (journal_Frame.calls (4 * l.length + 41) k A c l f r W h hc (by rw [pframe_ev _ _ _ (by omega), hf])).mono fun e w' ⟨v, he, hv, hb⟩ => by
    obtain ⟨A', c', rfl, h1, h2⟩ := row_R hv
    exact ⟨A', c', he, h1, h2, hb⟩
theorem rframe_C (W : World) (k : Int) (A : Option Addr) (c : Nat) (l : List Int) (hB : Args.Bytes l) (hc : l.length ≤ c) (h : Kd.C (Kd.int .u8) W A l.length l) (f : List Int) (r : Int) (hf : framedJ k l = (f, r)) :
    Calls Try.prog 12 #[.agg #[.int .i64 k, .slice A l.length c]] W fun e w' => ∃ A' c', e = .returned (.tuple #[.slice A' f.length c', .int .i64 r]) ∧ f.length ≤ c' ∧ Kd.C (Kd.int .u8) w' A' f.length f ∧ Below W.heap.size W w' :=
  (noonmarkref29_Frame.calls (10 * l.length + 101) k A c l f r W h hc (by rw [rframe_ev _ _ hB _ (by omega), hf])).mono fun e w' ⟨v, he, hv, hb⟩ => by
    obtain ⟨A', c', rfl, h1, h2⟩ := row_R hv
    exact ⟨A', c', he, h1, h2, hb⟩
theorem pread_C (W : World) (A : Option Addr) (c : Nat) (l : List Int) (hc : l.length ≤ c) (h : Kd.C (Kd.int .u8) W A l.length l) (rs : List S29) (a : Nat) (hf : journal_Read.f l = some (rs, (a : Int))) :
    Calls Try.prog 13 #[.slice A l.length c] W fun e w' => ∃ A' c', e = .returned (.tuple #[.slice A' rs.length c', .int .i64 a]) ∧ rs.length ≤ c' ∧ Kd.C k29 w' A' rs.length rs ∧ Below W.heap.size W w' :=
  (journal_Read.calls A c l rs a W h hc hf).mono fun e w' ⟨v, he, hv, hb⟩ => by
    obtain ⟨A', c', rfl, h1, h2⟩ := row_R hv
    exact ⟨A', c', he, h1, h2, hb⟩
theorem rread_C (W : World) (A : Option Addr) (c : Nat) (l : List Int) (hc : l.length ≤ c) (h : Kd.C (Kd.int .u8) W A l.length l) (rs : List S24) (a : Nat) (k : Nat) (hf : noonmarkref29_Read.f k l = some (rs, (a : Int))) :
    Calls Try.prog 14 #[.slice A l.length c] W fun e w' => ∃ A' c', e = .returned (.tuple #[.slice A' rs.length c', .int .i64 a]) ∧ rs.length ≤ c' ∧ Kd.C k24 w' A' rs.length rs ∧ Below W.heap.size W w' :=
  (noonmarkref29_Read.calls k (fun _ => True) A c l rs a W (V_ofC (Kd.heap_int .u8) hc h) hf).mono fun e w' ⟨v, he, hv, hb⟩ => by
    obtain ⟨A', c', rfl, h1, h2⟩ := row_N hv
    exact ⟨A', c', he, h1, h2, hb⟩
theorem back_C (W : World) (A : Option Addr) (c : Nat) (l : List S29) (hc : l.length ≤ c) (h : Kd.C k29 W A l.length l) (hl : l.length ≤ 4398046511104) (rs : List S24) (hr : rs = l.map to24) :
    Calls Try.prog 17 #[.slice A l.length c] W fun e w' => ∃ A' c', e = .returned (.slice A' rs.length c') ∧ rs.length ≤ c' ∧ Kd.C k24 w' A' rs.length rs ∧ Below W.heap.size W w' :=
  (noonmarklaw29_Back.calls (l.length + 1) (fun _ => True) A c l rs W (V_ofC k29_heap hc h) (by rw [back_ev l hl _ (by omega), hr])).mono fun e w' ⟨v, he, hv, hb⟩ => by
    obtain ⟨A', c', rfl, h1, h2⟩ := row_N hv
    exact ⟨A', c', he, h1, h2, hb⟩
theorem same_C (W : World) (A B : Option Addr) (c c' : Nat) (l m : List Int) (hc : l.length ≤ c) (h : Kd.C (Kd.int .u8) W A l.length l) (hc' : m.length ≤ c') (h' : Kd.C (Kd.int .u8) W B m.length m) (hl : l.length ≤ 9223372036854775807) (r : Bool) (hr : decide (l = m) = r) :
    Calls Try.prog 15 #[.slice A l.length c, .slice B m.length c'] W fun e w' => e = .returned (.bool r) ∧ ∃ k, w' = W.drewN k :=
  (noonmarkref01_Same.calls (l.length + 1) A c l B c' m r W h hc h' hc' (by rw [same01_ev _ _ hl _ (by omega), hr])).mono fun e w' ⟨he, ⟨k, hk⟩⟩ => ⟨he, k, by first | exact hk | exact hk.symm⟩
theorem same24_C (W : World) (A B : Option Addr) (c c' : Nat) (l : List S24) (hc : l.length ≤ c) (h : Kd.C k24 W A l.length l) (hc' : l.length ≤ c') (h' : Kd.C k24 W B l.length l) (hl : l.length ≤ 9223372036854775807) (hw : ∀ x ∈ l, x.f1.length ≤ 9223372036854775807) :
    Calls Try.prog 16 #[.slice A l.length c, .slice B l.length c'] W fun e w' => e = .returned (.bool true) ∧ ∃ k, w' = W.drewN k :=
  (noonmarkref29_Same.calls (wid l + l.length + 2) A c l B c' l true W h hc h' hc' (same29_refl l hl hw _ (by omega))).mono fun e w' ⟨he, ⟨k, hk⟩⟩ => ⟨he, k, by first | exact hk | exact hk.symm⟩
theorem psum_C (W : World) (A : Option Addr) (c : Nat) (l : List Int) (hl : l.length ≤ 4000000) (hc : l.length ≤ c) (h : Kd.C (Kd.int .u8) W A l.length l) (s : Int) (hs : crcJ l = s) :
    Calls Try.prog 18 #[.slice A l.length c] W fun e w' => e = .returned (.int .u32 s) ∧ ∃ k, w' = W.drewN k :=
  (journal_Sum.calls (4 * l.length + 40) A c l s W h hc (by rw [sum_ev _ (by omega) _ (by omega), hs])).mono fun e w' ⟨he, ⟨k, hk⟩⟩ => ⟨he, k, by first | exact hk | exact hk.symm⟩
theorem rsum_C (W : World) (A : Option Addr) (c : Nat) (l : List Int) (hB : Args.Bytes l) (hl : l.length ≤ 4000000) (hc : l.length ≤ c) (h : Kd.C (Kd.int .u8) W A l.length l) (s : Int) (hs : crcJ l = s) :
    Calls Try.prog 19 #[.slice A l.length c] W fun e w' => e = .returned (.int .u32 s) ∧ ∃ k, w' = W.drewN k :=
  (noonmarkref29_Sum.calls (10 * l.length + 100) A c l s W h hc (by rw [rsum_ev _ (by omega) hB _ (by omega), hs])).mono fun e w' ⟨he, ⟨k, hk⟩⟩ => ⟨he, k, by first | exact hk | exact hk.symm⟩
/-- what is read, and stays so beside calls -/
structure Bag (w W : World) (bs : List (Option Addr × List Int)) (r9 : List (Option Addr × List S29)) (r4 : List (Option Addr × List S24)) : Prop where
  below : Below w.heap.size w W
  rows : ∀ p ∈ bs, Kd.C (Kd.int .u8) W p.1 p.2.length p.2
  rows9 : ∀ p ∈ r9, Kd.C k29 W p.1 p.2.length p.2
  rows4 : ∀ p ∈ r4, Kd.C k24 W p.1 p.2.length p.2
theorem Bag.next {w W W' : World} {bs : List (Option Addr × List Int)} {r9 : List (Option Addr × List S29)} {r4 : List (Option Addr × List S24)} (h : Bag w W bs r9 r4) (hb : Below W.heap.size W W') : Bag w W' bs r9 r4 :=
  ⟨below_then h.below h.below.size hb, fun p hp => Kd.C_below (h.rows p hp) hb, fun p hp => Kd.C_below (h.rows9 p hp) hb, fun p hp => Kd.C_below (h.rows4 p hp) hb⟩
theorem Bag.drewN {w W : World} {bs : List (Option Addr × List Int)} {r9 : List (Option Addr × List S29)} {r4 : List (Option Addr × List S24)} (h : Bag w W bs r9 r4) (m : Nat) : Bag w (W.drewN m) bs r9 r4 := h.next (pw_below_drewN (Below.refl _ _) m)
theorem Bag.drew {w W : World} {bs : List (Option Addr × List Int)} {r9 : List (Option Addr × List S29)} {r4 : List (Option Addr × List S24)} (h : Bag w W bs r9 r4) : Bag w W.drew bs r9 r4 := h.next (below_drew (Below.refl _ _))
theorem Bag.alloc {w W : World} {bs : List (Option Addr × List Int)} {r9 : List (Option Addr × List S29)} {r4 : List (Option Addr × List S24)} (h : Bag w W bs r9 r4) (o : Obj) : Bag w (W.alloc o) bs r9 r4 := h.next (below_alloc (Below.refl _ _) o)
theorem Bag.add {w W : World} {bs : List (Option Addr × List Int)} {r9 : List (Option Addr × List S29)} {r4 : List (Option Addr × List S24)} (h : Bag w W bs r9 r4) {A : Option Addr} {l : List Int} (hC : Kd.C (Kd.int .u8) W A l.length l) : Bag w W ((A, l) :: bs) r9 r4 :=
  ⟨h.below, fun p hp => by rcases List.mem_cons.1 hp with rfl | hp; exact hC; exact h.rows p hp, h.rows9, h.rows4⟩
theorem Bag.add9 {w W : World} {bs : List (Option Addr × List Int)} {r9 : List (Option Addr × List S29)} {r4 : List (Option Addr × List S24)} (h : Bag w W bs r9 r4) {A : Option Addr} {l : List S29} (hC : Kd.C k29 W A l.length l) : Bag w W bs ((A, l) :: r9) r4 :=
  ⟨h.below, h.rows, fun p hp => by rcases List.mem_cons.1 hp with rfl | hp; exact hC; exact h.rows9 p hp, h.rows4⟩
theorem Bag.add4 {w W : World} {bs : List (Option Addr × List Int)} {r9 : List (Option Addr × List S29)} {r4 : List (Option Addr × List S24)} (h : Bag w W bs r9 r4) {A : Option Addr} {l : List S24} (hC : Kd.C k24 W A l.length l) : Bag w W bs r9 ((A, l) :: r4) :=
  ⟨h.below, h.rows, h.rows9, fun p hp => by rcases List.mem_cons.1 hp with rfl | hp; exact hC; exact h.rows4 p hp⟩
theorem Bag.at_ {w W : World} {bs : List (Option Addr × List Int)} {r9 : List (Option Addr × List S29)} {r4 : List (Option Addr × List S24)} (h : Bag w W bs r9 r4) {A : Option Addr} {l : List Int} (hm : (A, l) ∈ bs) : Kd.C (Kd.int .u8) W A l.length l := h.rows _ hm
theorem Bag.at9 {w W : World} {bs : List (Option Addr × List Int)} {r9 : List (Option Addr × List S29)} {r4 : List (Option Addr × List S24)} (h : Bag w W bs r9 r4) {A : Option Addr} {l : List S29} (hm : (A, l) ∈ r9) : Kd.C k29 W A l.length l := h.rows9 _ hm
theorem Bag.at4 {w W : World} {bs : List (Option Addr × List Int)} {r9 : List (Option Addr × List S29)} {r4 : List (Option Addr × List S24)} (h : Bag w W bs r9 r4) {A : Option Addr} {l : List S24} (hm : (A, l) ∈ r4) : Kd.C k24 W A l.length l := h.rows4 _ hm
theorem readsJ_fine (l : List Int) (hB : Args.Bytes l) : ∀ (m a : Nat) (acc rs : List S29) (e : Nat), readsJ m l a acc = some (rs, e) → (∀ x ∈ acc, x.f1.length ≤ 100000) → ∀ x ∈ rs, x.f1.length ≤ 100000 := by
  intro m
  induction m with
  | zero => intro a acc rs e h; cases h
  | succ m ih =>
    intro a acc rs e h hacc
    unfold readsJ at h
    cases e1 : rOneJ l a with
    | none => rw [e1] at h; cases h; exact hacc
    | some p =>
      obtain ⟨x, a'⟩ := p
      rw [e1] at h
      refine ih a' _ rs e h fun y hy => ?_
      rcases List.mem_append.1 hy with hy | hy
      · exact hacc y hy
      · rw [List.mem_singleton.1 hy]; exact (rOneJ_some hB e1).2.1
end Go.Proofs.Ytmcdpgopjfpjeaa.S
