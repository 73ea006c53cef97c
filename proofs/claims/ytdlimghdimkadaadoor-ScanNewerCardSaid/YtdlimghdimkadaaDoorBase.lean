/- Small facts about blocks that stay. -/
import Derived.Test.YtdlimghdimkadaaDoorPAllx0
import Derived.Lib.AppendStr
import Derived.Lib.SmallJoins
import Derived.Deep.RegionLaw
import Derived.WalkSpells
import Derived.Outline
namespace Go.Proofs.YtdlimghdimkadaaDoor.PAll
open Go.RowKit Go.Proofs.YtdlimghdimkadaaDoorW.PrintWords Go.Proofs.YtdlimghdimkadaaDoorW.PrintLast Go.Proofs.YtdlimghdimkadaaDoorW.PrintMore
theorem keep_below {W w1 : World} {g t : Nat} {cs : Array Value} (h : W.heap[g]? = some (.cells cs t (0, 0))) (hb : Below W.heap.size W w1) : w1.heap[g]? = some (.cells cs t (0, 0)) := by
  rw [hb.block g (blk_lt h)]; exact h
theorem keep_row {W w1 : World} {row : Option Nat} {g t : Nat} {cs : Array Value} (h : W.heap[g]? = some (.cells cs t (0, 0))) (hg : W.grownBy w1 row) (hne : some g ≠ row) : w1.heap[g]? = some (.cells cs t (0, 0)) := by
  rw [hg.block g (blk_lt h) hne]; exact h
theorem keep_alloc {W : World} {g t : Nat} {cs : Array Value} (h : W.heap[g]? = some (.cells cs t (0, 0))) (o : Obj) : (W.alloc o).heap[g]? = some (.cells cs t (0, 0)) :=
  keep_below h (below_alloc (Below.refl _ _) o)
theorem new_blk (W : World) (cs : Array Value) (t : Nat) : (W.alloc (.cells cs t)).heap[W.heap.size]? = some (.cells cs t (0, 0)) := Array.getElem?_push_size
theorem new_size (W : World) (o : Obj) : (W.alloc o).heap.size = W.heap.size + 1 := Array.size_push _
theorem cell_below {W w1 : World} {a : Addr} {v : Value} (h : W.cell? a = some v) (hb : Below W.heap.size W w1) : w1.cell? a = some v := by
  have hlt := World.block_lt_of_cell? _ _ h
  unfold World.cell? at h ⊢
  rw [hb.block _ hlt]
  exact h
end Go.Proofs.YtdlimghdimkadaaDoor.PAll
