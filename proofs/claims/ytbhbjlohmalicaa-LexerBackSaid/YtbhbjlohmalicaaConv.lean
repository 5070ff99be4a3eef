/- A string's bytes as a row: what the conversion makes, and that it stays. -/
import Derived.ArgAppend
import Derived.Below
import Derived.BigQuiet
import Derived.Deep.AppendLies
import Derived.Deep.CutBlock
import Derived.Deep.DeepCutAuto
import Derived.Deep.Draws
import Derived.Deep.LoopGhost
import Derived.Deep.OwnRows
import Derived.Deep.QuietTactic
import Derived.Deep.RegionHeld3
import Derived.KernelRfl
import Derived.Laws.BitsLemmas
import Derived.Laws.BytesArg
import Derived.Laws.IdiomCopy
import Derived.Laws.MakeOwn
import Derived.Laws.OwnMore
import Derived.Laws.Rows
import Derived.Laws.Slices
import Derived.Lib.AppendStr
import Derived.Lib.ConvBytes
import Derived.Maps.AppendAt
import Derived.OrdersHeld
import Derived.OwnWalk
import Derived.RowKit
import Derived.RowKit3
import Derived.Tactics
import Derived.Test.YtbhbjlohmalicaaProg
import Derived.Test.YtbhbjlohmalicaaWApart
import Derived.Test.YtbhbjlohmalicaaWArr
import Derived.Test.YtbhbjlohmalicaaWAt
import Derived.Test.YtbhbjlohmalicaaWEqStruct
import Derived.Test.YtbhbjlohmalicaaWFoot
import Derived.Test.YtbhbjlohmalicaaWFootNe
import Derived.Test.YtbhbjlohmalicaaWFour
import Derived.Test.YtbhbjlohmalicaaWGuard
import Derived.Test.YtbhbjlohmalicaaWInv
import Derived.Test.YtbhbjlohmalicaaWInvWords
import Derived.Test.YtbhbjlohmalicaaWKept
import Derived.Test.YtbhbjlohmalicaaWLast
import Derived.Test.YtbhbjlohmalicaaWMore
import Derived.Test.YtbhbjlohmalicaaWN
import Derived.Test.YtbhbjlohmalicaaWNEv
import Derived.Test.YtbhbjlohmalicaaWQPut
import Derived.Test.YtbhbjlohmalicaaWRepsOne
import Derived.Test.YtbhbjlohmalicaaWShare
import Derived.Test.YtbhbjlohmalicaaWTab
import Derived.Test.YtbhbjlohmalicaaWWords
import Derived.Test.YtbhbjlohmalicaaWZeros
import Derived.WalkKit
import Derived.WideLaws
namespace Go.Proofs.Ytbhbjlohmalicaa.S
open Go.RowKit Go.Proofs.YtbhbjlohmalicaaW.PrintWords
/-- a string's bytes as numbers -/
def strNums (b : ByteArray) : List Int := b.data.toList.map fun c => (c.toNat : Int)
theorem strNums_len (b : ByteArray) : (strNums b).length = b.size := by simp [strNums]
/-- a row of bytes behind the call's begin, which is read alone -/
def Rf (e : TypeId) (w : World) (base : Nat) (v : Value) (xs : List Int) : Prop :=
  ∃ (g cap : Nat) (cs : Array Value) (fz : Nat × Nat), v = .slice (some ⟨g, 0, none⟩) xs.length cap ∧ base ≤ g ∧ w.heap[g]? = some (.cells cs e fz) ∧ ∀ j, j < xs.length → cs[j]? = some (.int .u8 (xs.getD j 0))
theorem Rf_alloc {e : TypeId} {w : World} {base : Nat} {v : Value} {xs : List Int} (h : Rf e w base v xs) (o : Obj) : Rf e (w.alloc o) base v xs := by
  obtain ⟨g, cap, cs, fz, hv, hb, hg, hc⟩ := h
  refine ⟨g, cap, cs, fz, hv, hb, ?_, hc⟩
  have hlt : g < w.heap.size := by
    rcases Nat.lt_or_ge g w.heap.size with h' | h'
    · exact h'
    · rw [Array.getElem?_eq_none h'] at hg; cases hg
  have := (below_alloc (Below.refl w.heap.size w) o).block g hlt
  rw [this]; exact hg
theorem Rf_drewN {e : TypeId} {w : World} {base : Nat} {v : Value} {xs : List Int} (h : Rf e w base v xs) (n : Nat) : Rf e (w.drewN n) base v xs := h
theorem Rf_drew {e : TypeId} {w : World} {base : Nat} {v : Value} {xs : List Int} (h : Rf e w base v xs) : Rf e w.drew base v xs := h
theorem Rf_lower {e : TypeId} {w : World} {base b : Nat} {v : Value} {xs : List Int} (h : Rf e w base v xs) (hb : b ≤ base) : Rf e w b v xs := by
  obtain ⟨g, cap, cs, fz, hv, hg, r⟩ := h
  exact ⟨g, cap, cs, fz, hv, Nat.le_trans hb hg, r⟩
theorem Rf_cell {e : TypeId} {w : World} {base : Nat} {A : Option Addr} {n c : Nat} {xs : List Int} (h : Rf e w base (.slice A n c) xs) (i : Int) (h0 : 0 ≤ i) (h1 : i < xs.length) :
    ∃ ad, A = some ad ∧ w.cell? (ad.add i.toNat) = some (.int .u8 (rd xs i)) := by
  obtain ⟨g, cap, cs, fz, hv, hb, hg, hc⟩ := h
  injection hv with e1 e2 e3
  refine ⟨⟨g, 0, none⟩, e1, ?_⟩
  have ha : (⟨g, 0, none⟩ : Addr).add i.toNat = ⟨g, 0 + i.toNat, none⟩ := by unfold Addr.add; split <;> simp_all
  have := hc i.toNat (by omega)
  rw [ha]
  simp [World.cell?, hg, this, rd]
theorem Rf_slice {e : TypeId} {w : World} {base : Nat} {v : Value} {xs : List Int} (h : Rf e w base v xs) : ∃ A c, v = .slice A xs.length c := by
  obtain ⟨g, cap, cs, fz, hv, _⟩ := h
  exact ⟨_, _, hv⟩
section
variable {P : Program} {ops : Array Oper} {rest : List Oper} {o : Oper} {a : Act} {Q : Exit → Act → World → Prop}
theorem Rf_conv {w0 W : World} (base e : Nat) (hgd : o.guard = none) {N : Tmp} (_hd : o.dst = some N) (src dst : TypeId) (x : Operand) (ho : o.op = .convert src dst x) (s : ByteArray) (hx : a.eval x = .string s)
    (hs : P.underlying src = some .string) (hdt : P.underlying dst = some (.slice e)) (he : P.underlying e = some (.int .u8)) (HB : Below base w0 W) (hbase : base ≤ W.heap.size)
    (h : ∀ v1 w1, Rf e w1 base v1 (strNums s) → Below base w0 w1 → W.grownBy w1 none → (∃ b, v1.ownBlock = some b ∧ W.heap.size ≤ b) → wpList P ops Q rest (a.put o.dst v1) w1) : wpList P ops Q (o :: rest) a W := by
  have hr := Lib.run_convert_string_bytes (P := P) W src dst e s hs hdt he
  have hg : W.grownBy (Lib.bytesWorld W e s) none := ⟨rfl, rfl, rfl, by rw [Lib.bytesWorld_size]; omega, fun k hk _ => Lib.bytesWorld_at_old W e s k hk⟩
  refine Kd.event_run (w1 := Lib.bytesWorld W e s) (v := .slice (some ⟨W.heap.size, 0, none⟩) s.size (grownCap W s.size 0 e)) hgd (by simp [execOp, ho, hx, hr]) (h _ _ ?_ (pw_below_grown HB none hbase hg (fun k hk => by cases hk)) hg ⟨W.heap.size, by simp [Value.ownBlock], Nat.le_refl _⟩)
  refine ⟨W.heap.size, grownCap W s.size 0 e, _, _, by rw [strNums_len], hbase, Lib.bytesWorld_at_new W e s, fun j hj => ?_⟩
  rw [strNums_len] at hj
  have hj' : j < s.data.size := hj
  simp [Lib.bytesCells, Array.getElem?_append, strNums, List.getD]
  rw [if_pos hj, Array.getElem?_eq_getElem hj']
  simp
end
end Go.Proofs.Ytbhbjlohmalicaa.S
