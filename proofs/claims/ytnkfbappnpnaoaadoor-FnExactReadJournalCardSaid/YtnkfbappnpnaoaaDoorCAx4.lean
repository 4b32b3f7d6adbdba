/- A part of this claim's proof: functions of the program as plain functions, with the proof that the code comes to their answers, and facts about them. Condition: none of its own. -/
import Derived.Test.YtnkfbappnpnaoaaDoorCAx1
namespace Go.Proofs.YtnkfbappnpnaoaaDoor.Q
open Go.RowKit Go.Proofs.YtnkfbappnpnaoaaDoorW.PrintWords Go.Proofs.YtnkfbappnpnaoaaDoorW.PrintLast Go.Proofs.YtnkfbappnpnaoaaDoorW.PrintMore
attribute [local go_sem] max2_int min2_int max_two min_two max_three min_three max_four min_four   -- for this text's walks alone
set_option linter.unusedVariables false
set_option linter.unusedSimpArgs false

theorem w64 (i : Int) (h0 : -9223372036854775808 ≤ i) (h1 : i ≤ 9223372036854775807) : wrap64 i = i := by
  unfold wrap64
  omega
theorem cell_alloc {w : World} {a : Addr} {v : Value} (h : w.cell? a = some v) (o : Obj) : (w.alloc o).cell? a = some v := by
  rw [World.cell?_alloc_old _ _ _ (Nat.ne_of_lt (World.block_lt_of_cell? _ _ h))]
  exact h
theorem heap_alloc_old {w : World} {g : Nat} {x : Obj} (h : w.heap[g]? = some x) (o : Obj) : (w.alloc o).heap[g]? = some x := by
  have hlt : g < w.heap.size := (Array.getElem?_eq_some_iff.1 h).1
  show (w.heap.push o)[g]? = _
  rw [Array.getElem?_push, if_neg (by omega)]
  exact h
theorem frozen_alloc {w : World} {g i t : Nat} {cs : Array Value} (h : w.heap[g]? = some (.cells cs t (0, 0))) (o : Obj) : (w.alloc o).frozen? ⟨g, i, none⟩ = false := blk_frozen (heap_alloc_old h o) i
end Go.Proofs.YtnkfbappnpnaoaaDoor.Q
