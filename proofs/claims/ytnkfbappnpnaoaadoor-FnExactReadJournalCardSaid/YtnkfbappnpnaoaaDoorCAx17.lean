/- A part of this claim's proof: functions of the program as plain functions, with the proof that the code comes to their answers, and facts about them. Condition: none of its own. -/
import Derived.Shelf.Strings.Split
import Derived.Test.YtnkfbappnpnaoaaDoorCAx1
import Derived.Test.YtnkfbappnpnaoaaDoorCAx2
import Derived.Test.YtnkfbappnpnaoaaDoorCAx6
namespace Go.Proofs.YtnkfbappnpnaoaaDoor.Q
open Go.RowKit Go.Proofs.YtnkfbappnpnaoaaDoorW.PrintWords Go.Proofs.YtnkfbappnpnaoaaDoorW.PrintLast Go.Proofs.YtnkfbappnpnaoaaDoorW.PrintMore
attribute [local go_sem] max2_int min2_int max_two min_two max_three min_three max_four min_four   -- for this text's walks alone
set_option linter.unusedVariables false
set_option linter.unusedSimpArgs false

/-- strings.Split at a separator that is not empty. -/
def strings_Split.f (a0 : ByteArray) (a1 : ByteArray) : Option (List ByteArray) :=
  if a0.size < 4294967281 ∧ 1 ≤ a1.size then some (Lib.splitB a1 0 (Lib.countB a0 a1) a0) else none
theorem strings_Split.row (a0 a1 : ByteArray) (w : World) (hG : Glob w) (hs : a0.size < 4294967281) (h1 : 1 ≤ a1.size) :
    Calls Tryd.prog 47 #[.string a0, .string a1] w fun e w' =>
      e = .returned (.slice (some ⟨w.heap.size, 0, none⟩) (Lib.splitB a1 0 (Lib.countB a0 a1) a0).length (Lib.splitB a1 0 (Lib.countB a0 a1) a0).length) ∧ w' = w.alloc (.cells ((Lib.splitB a1 0 (Lib.countB a0 a1) a0).map Value.string).toArray 9) := by
  obtain ⟨m, hm⟩ := hG.mx
  have hlen := Lib.splitB_all a1 h1 0 _ a0 rfl
  refine (Any.strings_Split Tryd.lays146 (by kernel_rfl) a0 a1 m w hs hm h1).mono ?_
  rintro e w' ⟨rfl, rfl⟩
  exact ⟨by rw [hlen], rfl⟩
end Go.Proofs.YtnkfbappnpnaoaaDoor.Q
