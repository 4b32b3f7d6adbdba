/- A part of this claim's proof: functions of the program as plain functions, with the proof that the code comes to their answers, and facts about them. Condition: none of its own. -/
import Derived.LaidLaws
import Derived.Lib.LaidTab
import Derived.Shelf.Vars
import Derived.Test.YtnkfbappnpnaoaaDoorCAx1
import Derived.Test.YtnkfbappnpnaoaaDoorCAx2
import Derived.Test.YtnkfbappnpnaoaaDoorCAx3
import Derived.Test.YtnkfbappnpnaoaaDoorCAx28
namespace Go.Proofs.YtnkfbappnpnaoaaDoor.Q
open Go.RowKit Go.Proofs.YtnkfbappnpnaoaaDoorW.PrintWords Go.Proofs.YtnkfbappnpnaoaaDoorW.PrintLast Go.Proofs.YtnkfbappnpnaoaaDoorW.PrintMore
attribute [local go_sem] max2_int min2_int max_two min_two max_three min_three max_four min_four   -- for this text's walks alone
set_option linter.unusedVariables false
set_option linter.unusedSimpArgs false

theorem tab_at {P : Program} {W : World} {name : String} {k : IntKind} {zs : List Int} {l : List (String × DataW Unit)} (i : Nat) {ps : List MemPlace} {g : Nat} {t e : TypeId} {n : Nat}
    (hl : DataW.LaidVars P W l ps) (hi : l[i]? = some (name, Lib.tabData k zs))
    (hg : P.globalNamed name = some g) (hty : (P.globals[g]?).map (·.type) = some t) (ht : P.underlying t = some (.array n e)) (he : P.underlying e = some (.int k)) (hce : P.cellsOf e = 1) (hct : P.cellsOf t = n) : Lib.TabIs P W name k zs := by
  obtain ⟨g', t', cs, fuel, p, hg', ht', hvar, hd⟩ := laid_at i hl hi
  obtain rfl := Option.some.inj (hg.symm.trans hg')
  obtain rfl := Option.some.inj (hty.symm.trans ht')
  unfold Lib.TabIs
  rw [hvar, ← Lib.cells_of_tab ht he hce hct hd]
theorem iface_at {P : Program} {W : World} {name tn : String} {d : DataW Unit} {l : List (String × DataW Unit)} (i : Nat) {ps : List MemPlace} {g : Nat} {t : TypeId} {ms : Array (String × TypeId)}
    (hl : DataW.LaidVars P W l ps) (hi : l[i]? = some (name, .iface tn d)) (hg : P.globalNamed name = some g) (hty : (P.globals[g]?).map (·.type) = some t) (ht : P.underlying t = some (.interface ms)) : ∃ te pe, W.cell? ⟨g, 0, none⟩ = some (.iface te pe) := by
  obtain ⟨g', t', cs, fuel, p, hg', ht', hvar, hd⟩ := laid_at i hl hi
  obtain rfl := Option.some.inj (hg.symm.trans hg')
  obtain rfl := Option.some.inj (hty.symm.trans ht')
  obtain ⟨_, u, v, hcs, _, _⟩ := iface_of_trod ht hd
  refine ⟨u, v, ?_⟩
  have := World.var?_cell hg hvar 0
  rw [this, ← Array.getElem?_toList, hcs]
  rfl
/-- What the row's list and the world's shape give. -/
theorem glob_of {W : World} {l : List (String × DataW Unit)} (hL : laidMet Tryd.prog l W) (hsh : W.ShapedOpen Tryd.prog)
    (h2 : l[2]? = some ("internal/strconv.uint64pow10", Lib.tabData .u64 Lib.pow10Tab)) (h4 : ∃ d, l[4]? = some ("strconv.ErrRange", .iface "*errors.errorString" d)) (h5 : ∃ d, l[5]? = some ("strconv.ErrSyntax", .iface "*errors.errorString" d)) : Glob W := by
  obtain ⟨ps, hl, _⟩ := hL
  obtain ⟨d4, h4⟩ := h4
  obtain ⟨d5, h5⟩ := h5
  refine ⟨?_, ?_, ?_, ?_⟩
  · exact Go.Proofs.cell_of_shapedOpen_int (zero := #[.int .i64 0]) (t := 3) hsh (of_decide_eq_true (by kernel_rfl)) (by kernel_rfl) rfl (by kernel_rfl) (by kernel_rfl) Tryd.underlying3
  · exact tab_at (t := 118) (e := 101) (n := 20) 2 hl h2 gPow (by kernel_rfl) Tryd.underlying118 Tryd.underlying101 (by kernel_rfl) (by kernel_rfl)
  · exact iface_at 5 hl h5 (by kernel_rfl) (t := 82) (by kernel_rfl) Tryd.underlying82
  · exact iface_at 4 hl h4 (by kernel_rfl) (t := 82) (by kernel_rfl) Tryd.underlying82
end Go.Proofs.YtnkfbappnpnaoaaDoor.Q
