/- A region that draws its order, whose operations only read what is old and whose callees turn nothing old: one walk serves; no statement is proved here. -/
import Derived.Test.YtjanjaabcinkiaaBase
namespace Go.Proofs.Ytjanjaabcinkiaa
open Go.ChangeShapes Go.WideShapes Go.ChangeAt Go.RowKit
/-- a world in which nothing of W has turned -/
structure Bw (W : World) where
  w : World
  h : Below W.heap.size W w
instance (W : World) : Nonempty (Bw W) := ⟨⟨W, Below.refl _ _⟩⟩
theorem Bw.cell {W : World} (z : Bw W) {b o : Nat} {u : Value} (h : W.cell? ⟨b, o, none⟩ = some u) : z.w.cell? ⟨b, o, none⟩ = some u :=
  (z.h.cell (p := ⟨b, o, none⟩) (World.block_lt_of_cell? W ⟨b, o, none⟩ h)).trans h
theorem calls_bw {P : Program} {f : FuncId} {args : Array Value} {W : World} {z : Bw W} {v : Value} (h : Calls P f args z.w (Rt v z.w)) : Calls P f args z.w fun e w'' => e = .returned v ∧ ∃ z' : Bw W, w'' = z'.w :=
  h.mono fun _ w'' ⟨he, hb⟩ => ⟨he, ⟨w'', z.h.trans (hb.mono z.h.size)⟩, rfl⟩
theorem below_drew1 {B : Nat} {a w : World} (h : Below B a w) : Below B a { w with drawn := w.drawn + 1 } := ⟨h.os, h.tape, h.output, h.size, h.block⟩
theorem region_bw {P : Program} {id : Nat} {Q : Exit → Act → World → Prop} {a : Act} {w W : World} {l : List Oper} (hm : P.follows .mixedOrders = true) (hB : Region.lexB .any l.toArray = true) (hC : Below W.heap.size W w)
    (h : wpQuiet P l.toArray (fun w' => ∃ z : Bw W, w' = z.w) (fun a' => ∀ w', (∃ z : Bw W, w' = z.w) → Q .normal a' w') l a) : (Code.region id l.toArray true).wp P Q a w :=
  wp_region_quiet (C := fun w' => ∃ z : Bw W, w' = z.w) hm hB ⟨⟨_, below_drew1 hC⟩, rfl⟩ (by simpa using h)
end Go.Proofs.Ytjanjaabcinkiaa
