/- Slices of box structs: cells, and what szS, toS, eqS of the laws do; no statement is proved here. -/
import Derived.Test.YtimfabpigpcjhaaRow
import Derived.Test.YtimfabpigpcjhaaBox
namespace Go.Proofs.Ytimfabpigpcjhaa
open Go.ChangeShapes Go.WideShapes Go.ChangeAt Go.RowKit Go.Deep
set_option linter.unusedVariables false
set_option linter.unusedSimpArgs false

def boxF (a0 : Nat → Int) (a1 : Nat → Int) (a2 : Nat → Int) (a3 : Nat → Int) (i j : Nat) : Value := match j with | 0 => .int .i64 (a0 i) | 1 => .int .i64 (a1 i) | 2 => .int .i64 (a2 i) | _ => .int .i64 (a3 i)
theorem box_cells {w : World} {b off n cap : Nat} {a0 : Nat → Int} {a1 : Nat → Int} {a2 : Nat → Int} {a3 : Nat → Int} (h : RSl w b off n cap 4 (boxF a0 a1 a2 a3)) {i : Nat} (hi : i < n) : w.cell? ⟨b, off + i * 4, none⟩ = some (.int .i64 (a0 i)) ∧ w.cell? ⟨b, off + i * 4 + 1, none⟩ = some (.int .i64 (a1 i)) ∧ w.cell? ⟨b, off + i * 4 + 2, none⟩ = some (.int .i64 (a2 i)) ∧ w.cell? ⟨b, off + i * 4 + 3, none⟩ = some (.int .i64 (a3 i)) :=
  ⟨h.cell i 0 hi (by omega), h.cell i 1 hi (by omega), h.cell i 2 hi (by omega), h.cell i 3 hi (by omega)⟩
theorem box_put {w : World} {B g n k : Nat} {E : TypeId} {a0 : Nat → Int} {a1 : Nat → Int} {a2 : Nat → Int} {a3 : Nat → Int} (h : RRow w B g n 4 E (k * 4) (boxF a0 a1 a2 a3)) (hk : k < n) : RRow ((((w.setCell ⟨g, k * 4, none⟩ (.int .i64 (a0 k))).setCell ⟨g, k * 4 + 1, none⟩ (.int .i64 (a1 k))).setCell ⟨g, k * 4 + 2, none⟩ (.int .i64 (a2 k))).setCell ⟨g, k * 4 + 3, none⟩ (.int .i64 (a3 k))) B g n 4 E ((k + 1) * 4) (boxF a0 a1 a2 a3) :=
  RRow.q (RRow.put' (k := k) (j := 3) (RRow.put' (k := k) (j := 2) (RRow.put' (k := k) (j := 1) (RRow.put' (k := k) (j := 0) h (by omega) (by omega) rfl hk (by omega)) (by omega) (by omega) rfl hk (by omega)) (by omega) (by omega) rfl hk (by omega)) (by omega) (by omega) rfl hk (by omega)) (by omega)
theorem eqBox_c (x0 : Int) (x1 : Int) (x2 : Int) (x3 : Int) (w : World) : Calls Try.prog 13 #[(.agg #[.int .i64 x0, .int .i64 x1, .int .i64 x2, .int .i64 x3]), (.agg #[.int .i64 x0, .int .i64 x1, .int .i64 x2, .int .i64 x3])] w (Rt (.bool true) w) := by
  go_enter Try.func13, Try.ntmps13
  go_wp2
  go_ret
  exact ⟨rfl, (by repeat' (first | with_reducible exact Below.refl _ _ | with_reducible refine Below.alloc ?_ (by first | omega | (simp; done) | (simp; omega)) _ | with_reducible refine Below.drew ?_ | with_reducible refine below_drewN ?_ _ | with_reducible refine Below.setCell ?_ (by first | omega | (simp; done) | (simp; omega)) _ | with_reducible refine Below.grown ?_ (by assumption) (by first | omega | (simp; done) | (simp; omega)) (by intro k hk; cases hk; omega) | with_reducible refine Below.trans ?_ (Below.mono (by assumption) (by first | omega | (simp; done) | (simp; omega)))))⟩
theorem infoBox : (Try.prog.info? 24).map (fun i => (i.zero, i.size, i.bytes)) = some (some (.agg #[.int .i64 0, .int .i64 0, .int .i64 0, .int .i64 0]), 4, 32) := by kernel_rfl
theorem box_reads {H : Type} {enc : TypeId × Value → H} {W : World} {k : Nat} {cs : List Value} {x : DataW H × List MemPlace} (h : DataW.trod enc Try.prog W 0 (fun _ => true) true k 23 cs = some x) (hl : cs.length = 4) :
    (∃ z, cs[0]? = some (.int .i64 (z))) ∧ (∃ z, cs[1]? = some (.int .i64 (z))) ∧ (∃ z, cs[2]? = some (.int .i64 (z))) ∧ (∃ z, cs[3]? = some (.int .i64 (z))) :=
  ⟨struct_int Try.underlying23 h (q := 0) (j := 0) rfl rfl (by kernel_rfl) (by kernel_rfl) (by omega), struct_int Try.underlying23 h (q := 1) (j := 1) rfl rfl (by kernel_rfl) (by kernel_rfl) (by omega), struct_int Try.underlying23 h (q := 2) (j := 2) rfl rfl (by kernel_rfl) (by kernel_rfl) (by omega), struct_int Try.underlying23 h (q := 3) (j := 3) rfl rfl (by kernel_rfl) (by kernel_rfl) (by omega)⟩
end Go.Proofs.Ytimfabpigpcjhaa
