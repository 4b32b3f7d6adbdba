/- A part of this claim's proof: functions of the program as plain functions, with the proof that the code comes to their answers, and facts about them. Condition: none of its own. -/
import Derived.Deep.LoopGhost
import Derived.Outline
import Derived.Test.YtnkfbappnpnaoaaDoorCDx1
import Derived.Test.YtnkfbappnpnaoaaDoorCDx14
import Derived.Test.YtnkfbappnpnaoaaDoorCDx3
import Derived.Test.YtnkfbappnpnaoaaDoorCDx15
import Derived.Test.YtnkfbappnpnaoaaDoorCDx5
import Derived.Test.YtnkfbappnpnaoaaDoorCDx11
import Derived.Test.YtnkfbappnpnaoaaDoorCDx13
import Derived.Test.YtnkfbappnpnaoaaDoorCDz
namespace Go.Proofs.YtnkfbappnpnaoaaDoor.Q
open Go.RowKit Go.Proofs.YtnkfbappnpnaoaaDoorW.PrintWords Go.Proofs.YtnkfbappnpnaoaaDoorW.PrintLast Go.Proofs.YtnkfbappnpnaoaaDoorW.PrintMore
attribute [local go_sem] max2_int min2_int max_two min_two max_three min_three max_four min_four   -- for this text's walks alone
set_option linter.unusedVariables false
set_option linter.unusedSimpArgs false
set_option maxHeartbeats 4000000 in
set_option maxRecDepth 100000 in
theorem readDeed_len0 (a0 : ByteArray) (w : World) (hG : Glob w) (hs : a0.size < 4294967281) (k0 : ByteArray) (hk : (wordsOf a0)[0]? = some k0) (hj : kindIdx k0 = 0) (hl : ((wordsOf a0).length : Int) ≠ 2) :
    Calls Tryd.prog 33 #[.string a0] w fun e w' => e = .returned (.tuple #[.agg #[.int .i64 0, .int .i64 0, .int .i64 0, .string ⟨#[]⟩], .bool false]) ∧ Below w.heap.size w w' := by
  have hS := fun w hG => splitRow a0 ⟨#[32]⟩ w hG hs (by decide)
  have hn := splitB_ne a0 ⟨#[32]⟩ (by decide)
  change ∀ w hG, Calls _ _ _ w fun e w' => ∃ g, e = .returned (.slice (some ⟨g, 0, none⟩) (wordsOf a0).length (wordsOf a0).length) ∧ w'.heap[g]? = some (.cells ((wordsOf a0).map Value.string).toArray 9 (0, 0)) ∧ w.heap.size ≤ g ∧ Below w.heap.size w w' at hS
  change 0 < (wordsOf a0).length at hn
  generalize wordsOf a0 = ws at hS hn hk hl
  replace hl : (((ws.length : Nat) : Int) == 2) = false := beq_eq_false_iff_ne.2 hl
  have hI := idxRow k0
  rw [hj] at hI
  have HG := Aside0.mk hG
  clear hG hj hs
  go_enter Tryd.func33, Tryd.ntmps33
  go_wp2_with (first | (go_at_call 48; refine (hI _ _ _ (heap_alloc_old (heap_alloc_new _ _) _) (Nat.le_refl _)).mono ?_; rintro e w2 ⟨rfl, ⟨nd, rfl⟩⟩) | (go_at_call 47; refine (hS _ (HG.out.below ((Below.refl _ _).alloc (Nat.le_refl _) _))).mono ?_; rintro e w1 ⟨g, rfl, hb, hg, hB⟩; have hc00 : w1.cell? ⟨g, 0, none⟩ = some (.string k0) := (blk_cell hb 0).trans (by simp [hk]); have hc0 := fun o1 o2 => cell_alloc (cell_alloc hc00 o1) o2; clear hc00; have hR := (hB.block w.heap.size (by simp)).trans (heap_alloc_new w _); have hR2 := fun o1 o2 => heap_alloc_old (heap_alloc_old hR o1) o2; have r0 := fun o1 o2 => blk_cell (hR2 o1 o2) 0; have r1 := fun o1 o2 => blk_cell (hR2 o1 o2) 1; have r2 := fun o1 o2 => blk_cell (hR2 o1 o2) 2; have r3 := fun o1 o2 => blk_cell (hR2 o1 o2) 3; have f0 := fun o1 o2 => blk_frozen (hR2 o1 o2) 0; have f1 := fun o1 o2 => blk_frozen (hR2 o1 o2) 1; have f2 := fun o1 o2 => blk_frozen (hR2 o1 o2) 2; have f3 := fun o1 o2 => blk_frozen (hR2 o1 o2) 3; dsimp at r0 r1 r2 r3; replace hR2 := Aside0.mk hR2; have hBw := Aside0.mk (((Below.refl w.heap.size w).alloc (Nat.le_refl _) _).trans (hB.mono (by simp))); clear hR hB))
  refine bodyPost_ret (results_ct rfl _ _ w.heap.size 30 #[.int .i64 0, .int .i64 0, .int .i64 0, .string (⟨#[]⟩ : ByteArray)] (0, 0) _ rfl ?hblk Tryd.underlying30 rfl (by kernel_rfl)) rfl ?_
  case hblk =>
    refine blk_put (cs := #[.int .i64 0, .int .i64 0, .int .i64 0, .string (⟨#[]⟩ : ByteArray)]) ?_ 3 _ rfl
    refine blk_put (cs := #[.int .i64 0, .int .i64 0, .int .i64 0, .string (⟨#[]⟩ : ByteArray)]) ?_ 2 _ rfl
    refine blk_put (cs := #[.int .i64 0, .int .i64 0, .int .i64 0, .string (⟨#[]⟩ : ByteArray)]) ?_ 1 _ rfl
    refine blk_put (cs := #[.int .i64 0, .int .i64 0, .int .i64 0, .string (⟨#[]⟩ : ByteArray)]) ?_ 0 _ rfl
    exact blk_drewN (hR2.out _ _) _
  refine ⟨rfl, ?_⟩
  repeat (first | exact hBw.out | apply below_alloc | apply pw_below_drewN | refine below_set ?_ (Nat.le_refl _))
set_option maxHeartbeats 4000000 in
set_option maxRecDepth 100000 in
theorem readDeed_len1 (a0 : ByteArray) (w : World) (hG : Glob w) (hs : a0.size < 4294967281) (k0 : ByteArray) (hk : (wordsOf a0)[0]? = some k0) (hj : kindIdx k0 = 1) (hl : ((wordsOf a0).length : Int) ≠ 2) :
    Calls Tryd.prog 33 #[.string a0] w fun e w' => e = .returned (.tuple #[.agg #[.int .i64 0, .int .i64 0, .int .i64 0, .string ⟨#[]⟩], .bool false]) ∧ Below w.heap.size w w' := by
  have hS := fun w hG => splitRow a0 ⟨#[32]⟩ w hG hs (by decide)
  have hn := splitB_ne a0 ⟨#[32]⟩ (by decide)
  change ∀ w hG, Calls _ _ _ w fun e w' => ∃ g, e = .returned (.slice (some ⟨g, 0, none⟩) (wordsOf a0).length (wordsOf a0).length) ∧ w'.heap[g]? = some (.cells ((wordsOf a0).map Value.string).toArray 9 (0, 0)) ∧ w.heap.size ≤ g ∧ Below w.heap.size w w' at hS
  change 0 < (wordsOf a0).length at hn
  generalize wordsOf a0 = ws at hS hn hk hl
  replace hl : (((ws.length : Nat) : Int) == 2) = false := beq_eq_false_iff_ne.2 hl
  have hI := idxRow k0
  rw [hj] at hI
  have HG := Aside0.mk hG
  clear hG hj hs
  go_enter Tryd.func33, Tryd.ntmps33
  go_wp2_with (first | (go_at_call 48; refine (hI _ _ _ (heap_alloc_old (heap_alloc_new _ _) _) (Nat.le_refl _)).mono ?_; rintro e w2 ⟨rfl, ⟨nd, rfl⟩⟩) | (go_at_call 47; refine (hS _ (HG.out.below ((Below.refl _ _).alloc (Nat.le_refl _) _))).mono ?_; rintro e w1 ⟨g, rfl, hb, hg, hB⟩; have hc00 : w1.cell? ⟨g, 0, none⟩ = some (.string k0) := (blk_cell hb 0).trans (by simp [hk]); have hc0 := fun o1 o2 => cell_alloc (cell_alloc hc00 o1) o2; clear hc00; have hR := (hB.block w.heap.size (by simp)).trans (heap_alloc_new w _); have hR2 := fun o1 o2 => heap_alloc_old (heap_alloc_old hR o1) o2; have r0 := fun o1 o2 => blk_cell (hR2 o1 o2) 0; have r1 := fun o1 o2 => blk_cell (hR2 o1 o2) 1; have r2 := fun o1 o2 => blk_cell (hR2 o1 o2) 2; have r3 := fun o1 o2 => blk_cell (hR2 o1 o2) 3; have f0 := fun o1 o2 => blk_frozen (hR2 o1 o2) 0; have f1 := fun o1 o2 => blk_frozen (hR2 o1 o2) 1; have f2 := fun o1 o2 => blk_frozen (hR2 o1 o2) 2; have f3 := fun o1 o2 => blk_frozen (hR2 o1 o2) 3; dsimp at r0 r1 r2 r3; replace hR2 := Aside0.mk hR2; have hBw := Aside0.mk (((Below.refl w.heap.size w).alloc (Nat.le_refl _) _).trans (hB.mono (by simp))); clear hR hB))
  refine bodyPost_ret (results_ct rfl _ _ w.heap.size 30 #[.int .i64 0, .int .i64 0, .int .i64 0, .string (⟨#[]⟩ : ByteArray)] (0, 0) _ rfl ?hblk Tryd.underlying30 rfl (by kernel_rfl)) rfl ?_
  case hblk =>
    refine blk_put (cs := #[.int .i64 0, .int .i64 0, .int .i64 0, .string (⟨#[]⟩ : ByteArray)]) ?_ 3 _ rfl
    refine blk_put (cs := #[.int .i64 0, .int .i64 0, .int .i64 0, .string (⟨#[]⟩ : ByteArray)]) ?_ 2 _ rfl
    refine blk_put (cs := #[.int .i64 0, .int .i64 0, .int .i64 0, .string (⟨#[]⟩ : ByteArray)]) ?_ 1 _ rfl
    refine blk_put (cs := #[.int .i64 0, .int .i64 0, .int .i64 0, .string (⟨#[]⟩ : ByteArray)]) ?_ 0 _ rfl
    exact blk_drewN (hR2.out _ _) _
  refine ⟨rfl, ?_⟩
  repeat (first | exact hBw.out | apply below_alloc | apply pw_below_drewN | refine below_set ?_ (Nat.le_refl _))
set_option maxHeartbeats 4000000 in
set_option maxRecDepth 100000 in
theorem readDeed_len2 (a0 : ByteArray) (w : World) (hG : Glob w) (hs : a0.size < 4294967281) (k0 : ByteArray) (hk : (wordsOf a0)[0]? = some k0) (hj : kindIdx k0 = 2) (hl : ((wordsOf a0).length : Int) ≠ 4) :
    Calls Tryd.prog 33 #[.string a0] w fun e w' => e = .returned (.tuple #[.agg #[.int .i64 0, .int .i64 0, .int .i64 0, .string ⟨#[]⟩], .bool false]) ∧ Below w.heap.size w w' := by
  have hS := fun w hG => splitRow a0 ⟨#[32]⟩ w hG hs (by decide)
  have hn := splitB_ne a0 ⟨#[32]⟩ (by decide)
  change ∀ w hG, Calls _ _ _ w fun e w' => ∃ g, e = .returned (.slice (some ⟨g, 0, none⟩) (wordsOf a0).length (wordsOf a0).length) ∧ w'.heap[g]? = some (.cells ((wordsOf a0).map Value.string).toArray 9 (0, 0)) ∧ w.heap.size ≤ g ∧ Below w.heap.size w w' at hS
  change 0 < (wordsOf a0).length at hn
  generalize wordsOf a0 = ws at hS hn hk hl
  replace hl : (((ws.length : Nat) : Int) == 4) = false := beq_eq_false_iff_ne.2 hl
  have hI := idxRow k0
  rw [hj] at hI
  have HG := Aside0.mk hG
  clear hG hj hs
  go_enter Tryd.func33, Tryd.ntmps33
  go_wp2_with (first | (go_at_call 48; refine (hI _ _ _ (heap_alloc_old (heap_alloc_new _ _) _) (Nat.le_refl _)).mono ?_; rintro e w2 ⟨rfl, ⟨nd, rfl⟩⟩) | (go_at_call 47; refine (hS _ (HG.out.below ((Below.refl _ _).alloc (Nat.le_refl _) _))).mono ?_; rintro e w1 ⟨g, rfl, hb, hg, hB⟩; have hc00 : w1.cell? ⟨g, 0, none⟩ = some (.string k0) := (blk_cell hb 0).trans (by simp [hk]); have hc0 := fun o1 o2 => cell_alloc (cell_alloc hc00 o1) o2; clear hc00; have hR := (hB.block w.heap.size (by simp)).trans (heap_alloc_new w _); have hR2 := fun o1 o2 => heap_alloc_old (heap_alloc_old hR o1) o2; have r0 := fun o1 o2 => blk_cell (hR2 o1 o2) 0; have r1 := fun o1 o2 => blk_cell (hR2 o1 o2) 1; have r2 := fun o1 o2 => blk_cell (hR2 o1 o2) 2; have r3 := fun o1 o2 => blk_cell (hR2 o1 o2) 3; have f0 := fun o1 o2 => blk_frozen (hR2 o1 o2) 0; have f1 := fun o1 o2 => blk_frozen (hR2 o1 o2) 1; have f2 := fun o1 o2 => blk_frozen (hR2 o1 o2) 2; have f3 := fun o1 o2 => blk_frozen (hR2 o1 o2) 3; dsimp at r0 r1 r2 r3; replace hR2 := Aside0.mk hR2; have hBw := Aside0.mk (((Below.refl w.heap.size w).alloc (Nat.le_refl _) _).trans (hB.mono (by simp))); clear hR hB))
  refine bodyPost_ret (results_ct rfl _ _ w.heap.size 30 #[.int .i64 0, .int .i64 0, .int .i64 0, .string (⟨#[]⟩ : ByteArray)] (0, 0) _ rfl ?hblk Tryd.underlying30 rfl (by kernel_rfl)) rfl ?_
  case hblk =>
    refine blk_put (cs := #[.int .i64 0, .int .i64 0, .int .i64 0, .string (⟨#[]⟩ : ByteArray)]) ?_ 3 _ rfl
    refine blk_put (cs := #[.int .i64 0, .int .i64 0, .int .i64 0, .string (⟨#[]⟩ : ByteArray)]) ?_ 2 _ rfl
    refine blk_put (cs := #[.int .i64 0, .int .i64 0, .int .i64 0, .string (⟨#[]⟩ : ByteArray)]) ?_ 1 _ rfl
    refine blk_put (cs := #[.int .i64 0, .int .i64 0, .int .i64 0, .string (⟨#[]⟩ : ByteArray)]) ?_ 0 _ rfl
    exact blk_drewN (hR2.out _ _) _
  refine ⟨rfl, ?_⟩
  repeat (first | exact hBw.out | apply below_alloc | apply pw_below_drewN | refine below_set ?_ (Nat.le_refl _))
set_option maxHeartbeats 4000000 in
set_option maxRecDepth 100000 in
theorem readDeed_len3 (a0 : ByteArray) (w : World) (hG : Glob w) (hs : a0.size < 4294967281) (k0 : ByteArray) (hk : (wordsOf a0)[0]? = some k0) (hj : kindIdx k0 = 3) (hl : ((wordsOf a0).length : Int) ≠ 3) :
    Calls Tryd.prog 33 #[.string a0] w fun e w' => e = .returned (.tuple #[.agg #[.int .i64 0, .int .i64 0, .int .i64 0, .string ⟨#[]⟩], .bool false]) ∧ Below w.heap.size w w' := by
  have hS := fun w hG => splitRow a0 ⟨#[32]⟩ w hG hs (by decide)
  have hn := splitB_ne a0 ⟨#[32]⟩ (by decide)
  change ∀ w hG, Calls _ _ _ w fun e w' => ∃ g, e = .returned (.slice (some ⟨g, 0, none⟩) (wordsOf a0).length (wordsOf a0).length) ∧ w'.heap[g]? = some (.cells ((wordsOf a0).map Value.string).toArray 9 (0, 0)) ∧ w.heap.size ≤ g ∧ Below w.heap.size w w' at hS
  change 0 < (wordsOf a0).length at hn
  generalize wordsOf a0 = ws at hS hn hk hl
  replace hl : (((ws.length : Nat) : Int) == 3) = false := beq_eq_false_iff_ne.2 hl
  have hI := idxRow k0
  rw [hj] at hI
  have HG := Aside0.mk hG
  clear hG hj hs
  go_enter Tryd.func33, Tryd.ntmps33
  go_wp2_with (first | (go_at_call 48; refine (hI _ _ _ (heap_alloc_old (heap_alloc_new _ _) _) (Nat.le_refl _)).mono ?_; rintro e w2 ⟨rfl, ⟨nd, rfl⟩⟩) | (go_at_call 47; refine (hS _ (HG.out.below ((Below.refl _ _).alloc (Nat.le_refl _) _))).mono ?_; rintro e w1 ⟨g, rfl, hb, hg, hB⟩; have hc00 : w1.cell? ⟨g, 0, none⟩ = some (.string k0) := (blk_cell hb 0).trans (by simp [hk]); have hc0 := fun o1 o2 => cell_alloc (cell_alloc hc00 o1) o2; clear hc00; have hR := (hB.block w.heap.size (by simp)).trans (heap_alloc_new w _); have hR2 := fun o1 o2 => heap_alloc_old (heap_alloc_old hR o1) o2; have r0 := fun o1 o2 => blk_cell (hR2 o1 o2) 0; have r1 := fun o1 o2 => blk_cell (hR2 o1 o2) 1; have r2 := fun o1 o2 => blk_cell (hR2 o1 o2) 2; have r3 := fun o1 o2 => blk_cell (hR2 o1 o2) 3; have f0 := fun o1 o2 => blk_frozen (hR2 o1 o2) 0; have f1 := fun o1 o2 => blk_frozen (hR2 o1 o2) 1; have f2 := fun o1 o2 => blk_frozen (hR2 o1 o2) 2; have f3 := fun o1 o2 => blk_frozen (hR2 o1 o2) 3; dsimp at r0 r1 r2 r3; replace hR2 := Aside0.mk hR2; have hBw := Aside0.mk (((Below.refl w.heap.size w).alloc (Nat.le_refl _) _).trans (hB.mono (by simp))); clear hR hB))
  refine bodyPost_ret (results_ct rfl _ _ w.heap.size 30 #[.int .i64 0, .int .i64 0, .int .i64 0, .string (⟨#[]⟩ : ByteArray)] (0, 0) _ rfl ?hblk Tryd.underlying30 rfl (by kernel_rfl)) rfl ?_
  case hblk =>
    refine blk_put (cs := #[.int .i64 0, .int .i64 0, .int .i64 0, .string (⟨#[]⟩ : ByteArray)]) ?_ 3 _ rfl
    refine blk_put (cs := #[.int .i64 0, .int .i64 0, .int .i64 0, .string (⟨#[]⟩ : ByteArray)]) ?_ 2 _ rfl
    refine blk_put (cs := #[.int .i64 0, .int .i64 0, .int .i64 0, .string (⟨#[]⟩ : ByteArray)]) ?_ 1 _ rfl
    refine blk_put (cs := #[.int .i64 0, .int .i64 0, .int .i64 0, .string (⟨#[]⟩ : ByteArray)]) ?_ 0 _ rfl
    exact blk_drewN (hR2.out _ _) _
  refine ⟨rfl, ?_⟩
  repeat (first | exact hBw.out | apply below_alloc | apply pw_below_drewN | refine below_set ?_ (Nat.le_refl _))
set_option maxHeartbeats 4000000 in
set_option maxRecDepth 100000 in
theorem readDeed_len4 (a0 : ByteArray) (w : World) (hG : Glob w) (hs : a0.size < 4294967281) (k0 : ByteArray) (hk : (wordsOf a0)[0]? = some k0) (hj : kindIdx k0 = 4) (hl : ((wordsOf a0).length : Int) ≠ 1) :
    Calls Tryd.prog 33 #[.string a0] w fun e w' => e = .returned (.tuple #[.agg #[.int .i64 0, .int .i64 0, .int .i64 0, .string ⟨#[]⟩], .bool false]) ∧ Below w.heap.size w w' := by
  have hS := fun w hG => splitRow a0 ⟨#[32]⟩ w hG hs (by decide)
  have hn := splitB_ne a0 ⟨#[32]⟩ (by decide)
  change ∀ w hG, Calls _ _ _ w fun e w' => ∃ g, e = .returned (.slice (some ⟨g, 0, none⟩) (wordsOf a0).length (wordsOf a0).length) ∧ w'.heap[g]? = some (.cells ((wordsOf a0).map Value.string).toArray 9 (0, 0)) ∧ w.heap.size ≤ g ∧ Below w.heap.size w w' at hS
  change 0 < (wordsOf a0).length at hn
  generalize wordsOf a0 = ws at hS hn hk hl
  replace hl : (((ws.length : Nat) : Int) == 1) = false := beq_eq_false_iff_ne.2 hl
  have hI := idxRow k0
  rw [hj] at hI
  have HG := Aside0.mk hG
  clear hG hj hs
  go_enter Tryd.func33, Tryd.ntmps33
  go_wp2_with (first | (go_at_call 48; refine (hI _ _ _ (heap_alloc_old (heap_alloc_new _ _) _) (Nat.le_refl _)).mono ?_; rintro e w2 ⟨rfl, ⟨nd, rfl⟩⟩) | (go_at_call 47; refine (hS _ (HG.out.below ((Below.refl _ _).alloc (Nat.le_refl _) _))).mono ?_; rintro e w1 ⟨g, rfl, hb, hg, hB⟩; have hc00 : w1.cell? ⟨g, 0, none⟩ = some (.string k0) := (blk_cell hb 0).trans (by simp [hk]); have hc0 := fun o1 o2 => cell_alloc (cell_alloc hc00 o1) o2; clear hc00; have hR := (hB.block w.heap.size (by simp)).trans (heap_alloc_new w _); have hR2 := fun o1 o2 => heap_alloc_old (heap_alloc_old hR o1) o2; have r0 := fun o1 o2 => blk_cell (hR2 o1 o2) 0; have r1 := fun o1 o2 => blk_cell (hR2 o1 o2) 1; have r2 := fun o1 o2 => blk_cell (hR2 o1 o2) 2; have r3 := fun o1 o2 => blk_cell (hR2 o1 o2) 3; have f0 := fun o1 o2 => blk_frozen (hR2 o1 o2) 0; have f1 := fun o1 o2 => blk_frozen (hR2 o1 o2) 1; have f2 := fun o1 o2 => blk_frozen (hR2 o1 o2) 2; have f3 := fun o1 o2 => blk_frozen (hR2 o1 o2) 3; dsimp at r0 r1 r2 r3; replace hR2 := Aside0.mk hR2; have hBw := Aside0.mk (((Below.refl w.heap.size w).alloc (Nat.le_refl _) _).trans (hB.mono (by simp))); clear hR hB))
  refine bodyPost_ret (results_ct rfl _ _ w.heap.size 30 #[.int .i64 0, .int .i64 0, .int .i64 0, .string (⟨#[]⟩ : ByteArray)] (0, 0) _ rfl ?hblk Tryd.underlying30 rfl (by kernel_rfl)) rfl ?_
  case hblk =>
    refine blk_put (cs := #[.int .i64 0, .int .i64 0, .int .i64 0, .string (⟨#[]⟩ : ByteArray)]) ?_ 3 _ rfl
    refine blk_put (cs := #[.int .i64 0, .int .i64 0, .int .i64 0, .string (⟨#[]⟩ : ByteArray)]) ?_ 2 _ rfl
    refine blk_put (cs := #[.int .i64 0, .int .i64 0, .int .i64 0, .string (⟨#[]⟩ : ByteArray)]) ?_ 1 _ rfl
    refine blk_put (cs := #[.int .i64 0, .int .i64 0, .int .i64 0, .string (⟨#[]⟩ : ByteArray)]) ?_ 0 _ rfl
    exact blk_drewN (hR2.out _ _) _
  refine ⟨rfl, ?_⟩
  repeat (first | exact hBw.out | apply below_alloc | apply pw_below_drewN | refine below_set ?_ (Nat.le_refl _))
end Go.Proofs.YtnkfbappnpnaoaaDoor.Q
namespace Go.Proofs.YtnkfbappnpnaoaaDoor.Q
open Go.RowKit Go.Proofs.YtnkfbappnpnaoaaDoorW.PrintWords Go.Proofs.YtnkfbappnpnaoaaDoorW.PrintLast Go.Proofs.YtnkfbappnpnaoaaDoorW.PrintMore
attribute [local go_sem] max2_int min2_int max_two min_two max_three min_three max_four min_four   -- for this text's walks alone
set_option linter.unusedVariables false
set_option linter.unusedSimpArgs false
theorem str_empty {x : ByteArray} (h : x.toList = []) : x = ⟨#[]⟩ := by
  rw [Lib.toList_data] at h
  cases x
  rename_i d
  congr
  exact Array.toList_eq_nil_iff.1 h
theorem lit_len0 {l : List ByteArray} (h : l.length = 0) : l = [] := List.length_eq_zero_iff.1 h
theorem lit_len1 {l : List ByteArray} (h : l.length = 1) : ∃ x1, l = [x1] := List.length_eq_one_iff.1 h
theorem lit_len2 {l : List ByteArray} (h : l.length = 2) : ∃ x1 x2, l = [x1, x2] := by
  match l, h with
  | [a, b], _ => exact ⟨a, b, rfl⟩
theorem lit_len3 {l : List ByteArray} (h : l.length = 3) : ∃ x1 x2 x3, l = [x1, x2, x3] := by
  match l, h with
  | [a, b, c], _ => exact ⟨a, b, c, rfl⟩
theorem numLoop_cons {s x : ByteArray} {xs : List ByteArray} {i : Nat} {a b : Int} {k : Int} {z : ByteArray} {R : Int × Int × Int × ByteArray × Bool}
    (h : (numLoop (x :: xs) i a b).bind (fun r => match r with | none => deedNone | some (a, b) => deedFin s k a b z) = some R) :
    ∃ p, impl_readNumber.f x = some p ∧ (if p.2 = true then (if i = 0 then (numLoop xs (i + 1) p.1 b).bind (fun r => match r with | none => deedNone | some (a, b) => deedFin s k a b z) else (numLoop xs (i + 1) a p.1).bind (fun r => match r with | none => deedNone | some (a, b) => deedFin s k a b z)) else deedNone) = some R := by
  unfold numLoop at h
  cases hx : impl_readNumber.f x with
  | none => simp [hx] at h
  | some p =>
    refine ⟨p, rfl, ?_⟩
    simp only [hx, Option.bind_some] at h
    by_cases h1 : p.2 = true
    · by_cases h2 : i = 0
      · simpa [h1, h2] using h
      · simpa [h1, h2] using h
    · simpa [h1] using h
theorem deedFin_some {s : ByteArray} {i : Nat} {k a b : Int} {z : ByteArray} {R : Int × Int × Int × ByteArray × Bool}
    (h : (numLoop [] i a b).bind (fun r => match r with | none => deedNone | some (a, b) => deedFin s k a b z) = some R) : ∃ t, impl_deedTextM.f k a b z = some t ∧ (if t.toList = s.toList then some (k, a, b, z, true) else deedNone) = some R := by
  simp only [numLoop, Option.bind_some, deedFin] at h
  cases ht : impl_deedTextM.f k a b z with
  | none => simp [ht] at h
  | some t => exact ⟨t, rfl, by simpa [ht] using h⟩
theorem readNumber_empty : impl_readNumber.f (⟨#[]⟩ : ByteArray) = some ((atoiNum (⟨#[]⟩ : ByteArray)).1, false) := by
  unfold impl_readNumber.f atoiNum
  rfl
theorem readDeed_body (a0 : ByteArray) (w : World) (hG : Glob w) (hs : a0.size < 4294967281) (k0 x1 : ByteArray) (hk : wordsOf a0 = [k0, x1]) (hj : kindIdx k0 = 0) (r1 r2 r3 : Int) (r4 : ByteArray) (r5 : Bool) (h : deedRest a0 [x1] 0 (⟨#[]⟩ : ByteArray) = some (r1, r2, r3, r4, r5)) :
    Calls Tryd.prog 33 #[.string a0] w fun e w' => e = .returned (.tuple #[.agg #[.int .i64 r1, .int .i64 r2, .int .i64 r3, .string r4], .bool r5]) ∧ Below w.heap.size w w' := by
  unfold deedRest at h
  obtain ⟨p, hn0, h⟩ := numLoop_cons h
  obtain ⟨n0, b0⟩ := p
  cases b0
  · simp [deedNone] at h
    obtain ⟨rfl, rfl, rfl, rfl, rfl⟩ := h
    exact readDeed_body_0 a0 w hG hs k0 x1 hk hj n0 hn0
  simp at h
  obtain ⟨t, ht, h⟩ := deedFin_some h
  split at h
  · rename_i he
    simp at h
    obtain ⟨rfl, rfl, rfl, rfl, rfl⟩ := h
    exact readDeed_body_eq a0 w hG hs k0 x1 hk hj n0 hn0 t ht (by simp [he])
  · rename_i he
    simp [deedNone] at h
    obtain ⟨rfl, rfl, rfl, rfl, rfl⟩ := h
    exact readDeed_body_ne a0 w hG hs k0 x1 hk hj n0 hn0 t ht (by simpa using he)
theorem readDeed_drop (a0 : ByteArray) (w : World) (hG : Glob w) (hs : a0.size < 4294967281) (k0 x1 x2 : ByteArray) (hk : wordsOf a0 = [k0, x1, x2]) (hj : kindIdx k0 = 3) (r1 r2 r3 : Int) (r4 : ByteArray) (r5 : Bool) (h : deedRest a0 [x1, x2] 3 (⟨#[]⟩ : ByteArray) = some (r1, r2, r3, r4, r5)) :
    Calls Tryd.prog 33 #[.string a0] w fun e w' => e = .returned (.tuple #[.agg #[.int .i64 r1, .int .i64 r2, .int .i64 r3, .string r4], .bool r5]) ∧ Below w.heap.size w w' := by
  unfold deedRest at h
  obtain ⟨p, hn0, h⟩ := numLoop_cons h
  obtain ⟨n0, b0⟩ := p
  cases b0
  · simp [deedNone] at h
    obtain ⟨rfl, rfl, rfl, rfl, rfl⟩ := h
    exact readDeed_drop_0 a0 w hG hs k0 x1 x2 hk hj n0 hn0
  simp at h
  obtain ⟨p, hn1, h⟩ := numLoop_cons h
  obtain ⟨n1, b1⟩ := p
  cases b1
  · simp [deedNone] at h
    obtain ⟨rfl, rfl, rfl, rfl, rfl⟩ := h
    exact readDeed_drop_1 a0 w hG hs k0 x1 x2 hk hj n0 n1 hn0 hn1
  simp at h
  obtain ⟨t, ht, h⟩ := deedFin_some h
  split at h
  · rename_i he
    simp at h
    obtain ⟨rfl, rfl, rfl, rfl, rfl⟩ := h
    exact readDeed_drop_eq a0 w hG hs k0 x1 x2 hk hj n0 n1 hn0 hn1 t ht (by simp [he])
  · rename_i he
    simp [deedNone] at h
    obtain ⟨rfl, rfl, rfl, rfl, rfl⟩ := h
    exact readDeed_drop_ne a0 w hG hs k0 x1 x2 hk hj n0 n1 hn0 hn1 t ht (by simpa using he)
theorem readDeed_back (a0 : ByteArray) (w : World) (hG : Glob w) (hs : a0.size < 4294967281) (k0 : ByteArray) (hk : wordsOf a0 = [k0]) (hj : kindIdx k0 = 4) (r1 r2 r3 : Int) (r4 : ByteArray) (r5 : Bool) (h : deedRest a0 [] 4 (⟨#[]⟩ : ByteArray) = some (r1, r2, r3, r4, r5)) :
    Calls Tryd.prog 33 #[.string a0] w fun e w' => e = .returned (.tuple #[.agg #[.int .i64 r1, .int .i64 r2, .int .i64 r3, .string r4], .bool r5]) ∧ Below w.heap.size w w' := by
  unfold deedRest at h
  obtain ⟨t, ht, h⟩ := deedFin_some h
  split at h
  · rename_i he
    simp at h
    obtain ⟨rfl, rfl, rfl, rfl, rfl⟩ := h
    exact readDeed_back_eq a0 w hG hs k0 hk hj   t ht (by simp [he])
  · rename_i he
    simp [deedNone] at h
    obtain ⟨rfl, rfl, rfl, rfl, rfl⟩ := h
    exact readDeed_back_ne a0 w hG hs k0 hk hj   t ht (by simpa using he)
theorem readDeed_ruleE (a0 : ByteArray) (w : World) (hG : Glob w) (hs : a0.size < 4294967281) (k0 : ByteArray) (hk : wordsOf a0 = [k0, ⟨#[]⟩]) (hj : kindIdx k0 = 1) (r1 r2 r3 : Int) (r4 : ByteArray) (r5 : Bool) (h : deedRest a0 [⟨#[]⟩] 1 (⟨#[]⟩ : ByteArray) = some (r1, r2, r3, r4, r5)) :
    Calls Tryd.prog 33 #[.string a0] w fun e w' => e = .returned (.tuple #[.agg #[.int .i64 r1, .int .i64 r2, .int .i64 r3, .string r4], .bool r5]) ∧ Below w.heap.size w w' := by
  unfold deedRest at h
  obtain ⟨p, hn0, h⟩ := numLoop_cons h
  obtain ⟨n0, b0⟩ := p
  cases b0
  · simp [deedNone] at h
    obtain ⟨rfl, rfl, rfl, rfl, rfl⟩ := h
    exact readDeed_ruleE_0 a0 w hG hs k0 hk hj n0 hn0
  · rw [readNumber_empty] at hn0
    simp at hn0
theorem readDeed_ruleW (a0 : ByteArray) (w : World) (hG : Glob w) (hs : a0.size < 4294967281) (k0 x1 : ByteArray) (hk : wordsOf a0 = [k0, x1]) (hj : kindIdx k0 = 1) (hz : x1.toList.isEmpty = false) (r1 r2 r3 : Int) (r4 : ByteArray) (r5 : Bool) (h : deedRest a0 [] 1 x1 = some (r1, r2, r3, r4, r5)) :
    Calls Tryd.prog 33 #[.string a0] w fun e w' => e = .returned (.tuple #[.agg #[.int .i64 r1, .int .i64 r2, .int .i64 r3, .string r4], .bool r5]) ∧ Below w.heap.size w w' := by
  unfold deedRest at h
  obtain ⟨t, ht, h⟩ := deedFin_some h
  split at h
  · rename_i he
    simp at h
    obtain ⟨rfl, rfl, rfl, rfl, rfl⟩ := h
    exact readDeed_ruleW_eq a0 w hG hs k0 x1 hk hj hz   t ht (by simp [he])
  · rename_i he
    simp [deedNone] at h
    obtain ⟨rfl, rfl, rfl, rfl, rfl⟩ := h
    exact readDeed_ruleW_ne a0 w hG hs k0 x1 hk hj hz   t ht (by simpa using he)
theorem readDeed_amendE (a0 : ByteArray) (w : World) (hG : Glob w) (hs : a0.size < 4294967281) (k0 x1 x2 : ByteArray) (hk : wordsOf a0 = [k0, x1, x2, ⟨#[]⟩]) (hj : kindIdx k0 = 2) (r1 r2 r3 : Int) (r4 : ByteArray) (r5 : Bool) (h : deedRest a0 [x1, x2, ⟨#[]⟩] 2 (⟨#[]⟩ : ByteArray) = some (r1, r2, r3, r4, r5)) :
    Calls Tryd.prog 33 #[.string a0] w fun e w' => e = .returned (.tuple #[.agg #[.int .i64 r1, .int .i64 r2, .int .i64 r3, .string r4], .bool r5]) ∧ Below w.heap.size w w' := by
  unfold deedRest at h
  obtain ⟨p, hn0, h⟩ := numLoop_cons h
  obtain ⟨n0, b0⟩ := p
  cases b0
  · simp [deedNone] at h
    obtain ⟨rfl, rfl, rfl, rfl, rfl⟩ := h
    exact readDeed_amendE_0 a0 w hG hs k0 x1 x2 hk hj n0 hn0
  simp at h
  obtain ⟨p, hn1, h⟩ := numLoop_cons h
  obtain ⟨n1, b1⟩ := p
  cases b1
  · simp [deedNone] at h
    obtain ⟨rfl, rfl, rfl, rfl, rfl⟩ := h
    exact readDeed_amendE_1 a0 w hG hs k0 x1 x2 hk hj n0 n1 hn0 hn1
  simp at h
  obtain ⟨p, hn2, h⟩ := numLoop_cons h
  obtain ⟨n2, b2⟩ := p
  cases b2
  · simp [deedNone] at h
    obtain ⟨rfl, rfl, rfl, rfl, rfl⟩ := h
    exact readDeed_amendE_2 a0 w hG hs k0 x1 x2 hk hj n0 n1 n2 hn0 hn1 hn2
  · rw [readNumber_empty] at hn2
    simp at hn2
theorem readDeed_amendW (a0 : ByteArray) (w : World) (hG : Glob w) (hs : a0.size < 4294967281) (k0 x1 x2 x3 : ByteArray) (hk : wordsOf a0 = [k0, x1, x2, x3]) (hj : kindIdx k0 = 2) (hz : x3.toList.isEmpty = false) (r1 r2 r3 : Int) (r4 : ByteArray) (r5 : Bool) (h : deedRest a0 [x1, x2] 2 x3 = some (r1, r2, r3, r4, r5)) :
    Calls Tryd.prog 33 #[.string a0] w fun e w' => e = .returned (.tuple #[.agg #[.int .i64 r1, .int .i64 r2, .int .i64 r3, .string r4], .bool r5]) ∧ Below w.heap.size w w' := by
  unfold deedRest at h
  obtain ⟨p, hn0, h⟩ := numLoop_cons h
  obtain ⟨n0, b0⟩ := p
  cases b0
  · simp [deedNone] at h
    obtain ⟨rfl, rfl, rfl, rfl, rfl⟩ := h
    exact readDeed_amendW_0 a0 w hG hs k0 x1 x2 x3 hk hj hz n0 hn0
  simp at h
  obtain ⟨p, hn1, h⟩ := numLoop_cons h
  obtain ⟨n1, b1⟩ := p
  cases b1
  · simp [deedNone] at h
    obtain ⟨rfl, rfl, rfl, rfl, rfl⟩ := h
    exact readDeed_amendW_1 a0 w hG hs k0 x1 x2 x3 hk hj hz n0 n1 hn0 hn1
  simp at h
  obtain ⟨t, ht, h⟩ := deedFin_some h
  split at h
  · rename_i he
    simp at h
    obtain ⟨rfl, rfl, rfl, rfl, rfl⟩ := h
    exact readDeed_amendW_eq a0 w hG hs k0 x1 x2 x3 hk hj hz n0 n1 hn0 hn1 t ht (by simp [he])
  · rename_i he
    simp [deedNone] at h
    obtain ⟨rfl, rfl, rfl, rfl, rfl⟩ := h
    exact readDeed_amendW_ne a0 w hG hs k0 x1 x2 x3 hk hj hz n0 n1 hn0 hn1 t ht (by simpa using he)
theorem impl_readDeed.calls (a0 : ByteArray) (r1 : Int) (r2 : Int) (r3 : Int) (r4 : ByteArray) (r5 : Bool) (w : World) (hG : Glob w) (h : impl_readDeed.f a0 = some (r1, r2, r3, r4, r5)) :
    Calls Tryd.prog 33 #[.string a0] w fun e w' => e = .returned (.tuple #[.agg #[.int .i64 r1, .int .i64 r2, .int .i64 r3, .string r4], .bool r5]) ∧ Below w.heap.size w w' := by
  unfold impl_readDeed.f at h
  split at h
  case isFalse => simp at h
  rename_i hs
  have hn : 0 < (wordsOf a0).length := splitB_ne a0 ⟨#[32]⟩ (by decide)
  obtain ⟨k0, rest, hk⟩ : ∃ k0 rest, wordsOf a0 = k0 :: rest := by
    cases hw : wordsOf a0 with
    | nil => simp [hw] at hn
    | cons k rest => exact ⟨k, rest, rfl⟩
  rw [hk] at h
  have hk0 : (wordsOf a0)[0]? = some k0 := by simp [hk]
  unfold deedOf at h
  simp only [List.getD_cons_zero] at h
  have hR := kindIdx_range k0
  by_cases hneg : kindIdx k0 < 0
  · rw [if_pos hneg] at h
    simp [deedNone] at h
    obtain ⟨rfl, rfl, rfl, rfl, rfl⟩ := h
    exact readDeed_neg a0 w hG hs k0 hk0 hneg
  rw [if_neg hneg] at h
  have hcases : kindIdx k0 = 0 ∨ kindIdx k0 = 1 ∨ kindIdx k0 = 2 ∨ kindIdx k0 = 3 ∨ kindIdx k0 = 4 := by omega
  rcases hcases with hj | hj | hj | hj | hj
  · rw [hj] at h
    by_cases hl : ((wordsOf a0).length : Int) = 2
    · have hl2 : (((k0 :: rest).length : Nat) : Int) = 2 := by rw [← hk]; exact hl
      have hl3 : rest.length = 1 := by simp at hl2; omega
      obtain ⟨x1, rfl⟩ := lit_len1 hl3
      rw [if_pos (by rw [hl2]; rfl)] at h
      rw [if_neg (by decide)] at h
      exact readDeed_body a0 w hG hs k0 x1 hk hj _ _ _ _ _ h
    · rw [if_neg (by rw [← hk]; exact hl)] at h
      simp [deedNone] at h
      obtain ⟨rfl, rfl, rfl, rfl, rfl⟩ := h
      exact readDeed_len0 a0 w hG hs k0 hk0 hj hl
  · rw [hj] at h
    by_cases hl : ((wordsOf a0).length : Int) = 2
    · have hl2 : (((k0 :: rest).length : Nat) : Int) = 2 := by rw [← hk]; exact hl
      have hl3 : rest.length = 1 := by simp at hl2; omega
      obtain ⟨x1, rfl⟩ := lit_len1 hl3
      rw [if_pos (by rw [hl2]; rfl)] at h
      rw [if_pos (by decide)] at h
      by_cases hz : x1.toList = []
      · rw [if_pos (show ([k0, x1].getD ([k0, x1].length - 1) ByteArray.empty).toList = [] from hz)] at h
        have : x1 = ⟨#[]⟩ := str_empty hz
        subst this
        exact readDeed_ruleE a0 w hG hs k0  hk hj _ _ _ _ _ h
      · have hz2 : x1.toList.isEmpty = false := by simpa using hz
        simp [hz] at h
        exact readDeed_ruleW a0 w hG hs k0 x1 hk hj hz2 _ _ _ _ _ h
    · rw [if_neg (by rw [← hk]; exact hl)] at h
      simp [deedNone] at h
      obtain ⟨rfl, rfl, rfl, rfl, rfl⟩ := h
      exact readDeed_len1 a0 w hG hs k0 hk0 hj hl
  · rw [hj] at h
    by_cases hl : ((wordsOf a0).length : Int) = 4
    · have hl2 : (((k0 :: rest).length : Nat) : Int) = 4 := by rw [← hk]; exact hl
      have hl3 : rest.length = 3 := by simp at hl2; omega
      obtain ⟨x1, x2, x3, rfl⟩ := lit_len3 hl3
      rw [if_pos (by rw [hl2]; rfl)] at h
      rw [if_pos (by decide)] at h
      by_cases hz : x3.toList = []
      · rw [if_pos (show ([k0, x1, x2, x3].getD ([k0, x1, x2, x3].length - 1) ByteArray.empty).toList = [] from hz)] at h
        have : x3 = ⟨#[]⟩ := str_empty hz
        subst this
        exact readDeed_amendE a0 w hG hs k0 x1 x2 hk hj _ _ _ _ _ h
      · have hz2 : x3.toList.isEmpty = false := by simpa using hz
        simp [hz] at h
        exact readDeed_amendW a0 w hG hs k0 x1 x2 x3 hk hj hz2 _ _ _ _ _ h
    · rw [if_neg (by rw [← hk]; exact hl)] at h
      simp [deedNone] at h
      obtain ⟨rfl, rfl, rfl, rfl, rfl⟩ := h
      exact readDeed_len2 a0 w hG hs k0 hk0 hj hl
  · rw [hj] at h
    by_cases hl : ((wordsOf a0).length : Int) = 3
    · have hl2 : (((k0 :: rest).length : Nat) : Int) = 3 := by rw [← hk]; exact hl
      have hl3 : rest.length = 2 := by simp at hl2; omega
      obtain ⟨x1, x2, rfl⟩ := lit_len2 hl3
      rw [if_pos (by rw [hl2]; rfl)] at h
      rw [if_neg (by decide)] at h
      exact readDeed_drop a0 w hG hs k0 x1 x2 hk hj _ _ _ _ _ h
    · rw [if_neg (by rw [← hk]; exact hl)] at h
      simp [deedNone] at h
      obtain ⟨rfl, rfl, rfl, rfl, rfl⟩ := h
      exact readDeed_len3 a0 w hG hs k0 hk0 hj hl
  · rw [hj] at h
    by_cases hl : ((wordsOf a0).length : Int) = 1
    · have hl2 : (((k0 :: rest).length : Nat) : Int) = 1 := by rw [← hk]; exact hl
      have hl3 : rest.length = 0 := by simp at hl2; omega
      obtain ⟨rfl⟩ := lit_len0 hl3
      rw [if_pos (by rw [hl2]; rfl)] at h
      rw [if_neg (by decide)] at h
      exact readDeed_back a0 w hG hs k0  hk hj _ _ _ _ _ h
    · rw [if_neg (by rw [← hk]; exact hl)] at h
      simp [deedNone] at h
      obtain ⟨rfl, rfl, rfl, rfl, rfl⟩ := h
      exact readDeed_len4 a0 w hG hs k0 hk0 hj hl
end Go.Proofs.YtnkfbappnpnaoaaDoor.Q
namespace Go.Proofs.YtnkfbappnpnaoaaDoor.Q
open Go.RowKit Go.Proofs.YtnkfbappnpnaoaaDoorW.PrintWords Go.Proofs.YtnkfbappnpnaoaaDoorW.PrintLast Go.Proofs.YtnkfbappnpnaoaaDoorW.PrintMore
attribute [local go_sem] max2_int min2_int max_two min_two max_three min_three max_four min_four   -- for this text's walks alone
set_option linter.unusedVariables false
set_option linter.unusedSimpArgs false
theorem readNumber_num (a : Int) (h0 : 0 ≤ a) (h1 : a ≤ 99) : impl_readNumber.f (numB a) = some (a, true) := by
  have h : ∀ a : Fin 100, (match Lib.atoiAll (num2 a.val) with | .ok v => v == (a.val : Int) | _ => false) = true := by decide +kernel
  have h2 := h ⟨a.toNat, by omega⟩
  have e : ((a.toNat : Nat) : Int) = a := by omega
  have h3 : Lib.atoiAll (num2 a.toNat) = .ok a := by
    simp only [e] at h2
    cases h4 : Lib.atoiAll (num2 a.toNat) <;> simp [h4] at h2
    rw [h2]
  have h5 : Lib.itoa a = num2 a.toNat := by
    unfold Lib.itoa
    rw [if_neg (by omega), ← decDigits_num2 _ (by omega)]
    try congr 1
  unfold impl_readNumber.f
  have hsz := numB_size a h0 h1
  rw [if_pos (by omega)]
  have h6 : atoiNum (numB a) = (a, true) := by
    unfold atoiNum
    show (match Lib.atoiAll (num2 a.toNat) with | .ok v => (v, true) | _ => _) = _
    rw [h3]
  rw [h6, h5]
  simp [h0, numB, bs_data]
  omega
theorem kind_lits : kindIdx (bs [98, 111, 100, 121]) = 0 ∧ kindIdx (bs [114, 117, 108, 101]) = 1 ∧ kindIdx (bs [97, 109, 101, 110, 100]) = 2 ∧ kindIdx (bs [100, 114, 111, 112]) = 3 ∧ kindIdx (bs [98, 97, 99, 107]) = 4 := by
  simp [kindIdx, bs_toList]
theorem numB_toList (a : Int) : (numB a).toList = num2 a.toNat := bs_toList _
theorem nosp (a : Int) (h0 : 0 ≤ a) (h1 : a ≤ 99) : (32 : UInt8) ∉ num2 a.toNat := num2_nosp ⟨a.toNat, by omega⟩
theorem nosp_z {z : ByteArray} (h : plainB z = true) : (32 : UInt8) ∉ z.toList ∧ z.toList ≠ [] := by
  unfold plainB at h
  simp at h
  refine ⟨fun hm => ?_, h.1⟩
  have := h.2 _ hm
  simp [isGap] at this
theorem words_body (a : Int) (h0 : 0 ≤ a) (h1 : a ≤ 99) (s : ByteArray) (hs : (⟨#[98, 111, 100, 121, 32]⟩ : ByteArray) ++ numB a = s) : wordsOf s = [bs [98, 111, 100, 121], numB a] := by
  subst hs
  exact words_join [[98, 111, 100, 121], num2 a.toNat] (by simp) (by
    intro w hw
    simp at hw
    rcases hw with rfl | rfl
    · decide
    · exact nosp a h0 h1) _ (by rw [app_toList, numB_toList]; rw [show (⟨#[98, 111, 100, 121, 32]⟩ : ByteArray) = bs [98, 111, 100, 121, 32] from rfl, bs_toList]; rfl)
theorem words_rule (z : ByteArray) (hz : plainB z = true) (s : ByteArray) (hs : (⟨#[114, 117, 108, 101, 32]⟩ : ByteArray) ++ z = s) : wordsOf s = [bs [114, 117, 108, 101], z] := by
  subst hs
  rw [words_join [[114, 117, 108, 101], z.toList] (by simp) (by
    intro w hw
    simp at hw
    rcases hw with rfl | rfl
    · decide
    · exact (nosp_z hz).1) _ (by rw [app_toList]; rw [show (⟨#[114, 117, 108, 101, 32]⟩ : ByteArray) = bs [114, 117, 108, 101, 32] from rfl, bs_toList]; rfl)]
  simp [bs_of]
theorem words_amend (a b : Int) (h0 : 0 ≤ a) (h1 : a ≤ 99) (h2 : 0 ≤ b) (h3 : b ≤ 99) (z : ByteArray) (hz : plainB z = true) (s : ByteArray) (hs : ((((⟨#[97, 109, 101, 110, 100, 32]⟩ : ByteArray) ++ numB a) ++ (⟨#[32]⟩ : ByteArray)) ++ numB b) ++ (⟨#[32]⟩ : ByteArray) ++ z = s) : wordsOf s = [bs [97, 109, 101, 110, 100], numB a, numB b, z] := by
  subst hs
  rw [words_join [[97, 109, 101, 110, 100], num2 a.toNat, num2 b.toNat, z.toList] (by simp) (by
    intro w hw
    simp at hw
    rcases hw with rfl | rfl | rfl | rfl
    · decide
    · exact nosp a h0 h1
    · exact nosp b h2 h3
    · exact (nosp_z hz).1) _ (by simp only [app_toList, numB_toList]; rw [show (⟨#[97, 109, 101, 110, 100, 32]⟩ : ByteArray) = bs [97, 109, 101, 110, 100, 32] from rfl, show (⟨#[32]⟩ : ByteArray) = bs [32] from rfl, bs_toList, bs_toList]; simp [joinL])]
  simp [bs_of, numB]
theorem words_drop (a b : Int) (h0 : 0 ≤ a) (h1 : a ≤ 99) (h2 : 0 ≤ b) (h3 : b ≤ 99) (s : ByteArray) (hs : (((⟨#[100, 114, 111, 112, 32]⟩ : ByteArray) ++ numB a) ++ (⟨#[32]⟩ : ByteArray)) ++ numB b = s) : wordsOf s = [bs [100, 114, 111, 112], numB a, numB b] := by
  subst hs
  rw [words_join [[100, 114, 111, 112], num2 a.toNat, num2 b.toNat] (by simp) (by
    intro w hw
    simp at hw
    rcases hw with rfl | rfl | rfl
    · decide
    · exact nosp a h0 h1
    · exact nosp b h2 h3) _ (by simp only [app_toList, numB_toList]; rw [show (⟨#[100, 114, 111, 112, 32]⟩ : ByteArray) = bs [100, 114, 111, 112, 32] from rfl, show (⟨#[32]⟩ : ByteArray) = bs [32] from rfl, bs_toList, bs_toList]; simp [joinL])]
  simp [numB]
theorem words_back (s : ByteArray) (hs : (⟨#[98, 97, 99, 107]⟩ : ByteArray) = s) : wordsOf s = [bs [98, 97, 99, 107]] := by
  subst hs
  exact words_join [[98, 97, 99, 107]] (by simp) (by simp) _ (bs_toList [98, 97, 99, 107])
theorem dText_cases {k a b : Int} {z s : ByteArray} (h : dText k a b z = s) (hs : s.toList ≠ []) : (0 ≤ a ∧ a ≤ 99 ∧ 0 ≤ b ∧ b ≤ 99) ∧
    ((k = 0 ∧ b = 0 ∧ z = ⟨#[]⟩ ∧ (⟨#[98, 111, 100, 121, 32]⟩ : ByteArray) ++ numB a = s) ∨ (k = 1 ∧ a = 0 ∧ b = 0 ∧ plainB z = true ∧ (⟨#[114, 117, 108, 101, 32]⟩ : ByteArray) ++ z = s) ∨
     (k = 2 ∧ plainB z = true ∧ ((((⟨#[97, 109, 101, 110, 100, 32]⟩ : ByteArray) ++ numB a) ++ (⟨#[32]⟩ : ByteArray)) ++ numB b) ++ (⟨#[32]⟩ : ByteArray) ++ z = s) ∨
     (k = 3 ∧ z = ⟨#[]⟩ ∧ (((⟨#[100, 114, 111, 112, 32]⟩ : ByteArray) ++ numB a) ++ (⟨#[32]⟩ : ByteArray)) ++ numB b = s) ∨ (k = 4 ∧ a = 0 ∧ b = 0 ∧ z = ⟨#[]⟩ ∧ (⟨#[98, 97, 99, 107]⟩ : ByteArray) = s)) := by
  have he : (⟨#[]⟩ : ByteArray).toList = [] := bs_toList []
  unfold dText at h
  split at h
  · subst h; exact absurd he hs
  rename_i hr
  refine ⟨Classical.not_not.1 hr, ?_⟩
  split at h
  · rename_i c; exact Or.inl ⟨c.1, c.2.1, str_empty c.2.2, h⟩
  split at h
  · rename_i c; exact Or.inr (Or.inl ⟨c.1, c.2.1, c.2.2.1, c.2.2.2, h⟩)
  split at h
  · rename_i c; exact Or.inr (Or.inr (Or.inl ⟨c.1, c.2, h⟩))
  split at h
  · rename_i c; exact Or.inr (Or.inr (Or.inr (Or.inl ⟨c.1, str_empty c.2, h⟩)))
  split at h
  · rename_i c; exact Or.inr (Or.inr (Or.inr (Or.inr ⟨c.1, c.2.1, c.2.2.1, str_empty c.2.2.2, h⟩)))
  · subst h; exact absurd he hs
theorem deedFin_hit {s : ByteArray} {k a b : Int} {z : ByteArray} (h : dText k a b z = s) (hz : z.size < 4294967281) : deedFin s k a b z = some (k, a, b, z, true) := by
  unfold deedFin
  rw [deedTextM_eq k a b z hz, Option.bind_some, h, if_pos rfl]
theorem empty_size : (⟨#[]⟩ : ByteArray).size < 4294967281 := by decide
theorem readDeed_hit (k a b : Int) (z s : ByteArray) (hsz : s.size < 4294967281) (h : dText k a b z = s) (hs : s.toList ≠ []) (hz : z.size < 4294967281) : impl_readDeed.f s = some (k, a, b, z, true) := by
  obtain ⟨k0, k1, k2, k3, k4⟩ := kind_lits
  unfold impl_readDeed.f
  rw [if_pos hsz]
  obtain ⟨⟨ha0, ha1, hb0, hb1⟩, hc⟩ := dText_cases h hs
  rcases hc with ⟨rfl, rfl, rfl, hc⟩ | ⟨rfl, rfl, rfl, hp, hc⟩ | ⟨rfl, hp, hc⟩ | ⟨rfl, rfl, hc⟩ | ⟨rfl, rfl, rfl, rfl, hc⟩
  · rw [words_body a ha0 ha1 s hc]
    unfold deedOf
    simp only [List.getD_cons_zero, k0]
    simp [countsL, deedRest, numLoop, readNumber_num a ha0 ha1, deedFin_hit h empty_size]
  · rw [words_rule z hp s hc]
    unfold deedOf
    simp only [List.getD_cons_zero, k1]
    simp [countsL, deedRest, numLoop, deedFin_hit h hz, (nosp_z hp).2]
  · rw [words_amend a b ha0 ha1 hb0 hb1 z hp s hc]
    unfold deedOf
    simp only [List.getD_cons_zero, k2]
    simp [countsL, deedRest, numLoop, readNumber_num a ha0 ha1, readNumber_num b hb0 hb1, deedFin_hit h hz, (nosp_z hp).2]
  · rw [words_drop a b ha0 ha1 hb0 hb1 s hc]
    unfold deedOf
    simp only [List.getD_cons_zero, k3]
    simp [countsL, deedRest, numLoop, readNumber_num a ha0 ha1, readNumber_num b hb0 hb1, deedFin_hit h empty_size]
  · rw [words_back s hc]
    unfold deedOf
    simp only [List.getD_cons_zero, k4]
    simp [countsL, deedRest, numLoop, deedFin_hit h empty_size]
end Go.Proofs.YtnkfbappnpnaoaaDoor.Q
namespace Go.Proofs.YtnkfbappnpnaoaaDoor.Q
open Go.RowKit Go.Proofs.YtnkfbappnpnaoaaDoorW.PrintWords Go.Proofs.YtnkfbappnpnaoaaDoorW.PrintLast Go.Proofs.YtnkfbappnpnaoaaDoorW.PrintMore
attribute [local go_sem] max2_int min2_int max_two min_two max_three min_three max_four min_four   -- for this text's walks alone
set_option linter.unusedVariables false
set_option linter.unusedSimpArgs false
def impl_DeedText.f (a0_0 : Int) (a0_1 : Int) (a0_2 : Int) (a0_3 : ByteArray) : Option (ByteArray) := (impl_deedTextM.f a0_0 a0_1 a0_2 a0_3).bind fun t487 => (some t487)
set_option maxHeartbeats 8000000 in
set_option maxRecDepth 100000 in
theorem impl_DeedText.calls (a0_0 : Int) (a0_1 : Int) (a0_2 : Int) (a0_3 : ByteArray) (r : ByteArray) (w : World) (h : impl_DeedText.f a0_0 a0_1 a0_2 a0_3 = some r) :
    Calls Tryd.prog 13 #[.agg #[.int .i64 a0_0, .int .i64 a0_1, .int .i64 a0_2, .string a0_3]] w fun e w' => e = .returned (.string r) ∧ Below w.heap.size w w' := by
 have hu30 := Tryd.underlying30
 have HB := Aside0.mk (Below.refl w.heap.size w)
 have H : ((impl_deedTextM.f a0_0 a0_1 a0_2 a0_3).bind fun t487 => (some t487)) = some r := h
 clear h
 replace H := Option.bind_eq_some_iff.mp H
 obtain ⟨t487, A20, H⟩ := H
 try dsimp only at H
 have A2 := Aside0.mk A20
 clear A20
 obtain rfl := Option.some.inj H
 go_enter Tryd.func13, Tryd.ntmps13
 go_wp2_with (first | ((with_reducible refine gate_dst (N := 1) rfl ?_); refine box_event ?hg (N := 1) ?hd (cs := #[.int .i64 a0_0, .int .i64 a0_1, .int .i64 a0_2, .string a0_3]) (t := 30) ?hr ?_; (case hd => rfl); (case hg => rfl); (case hr => exact zcd_12); intro gb486 hg w3 hbox hb; have n0_ := Aside0.mk (below_step zcd_4 hb); have n1_ := Aside0.mk (hbox); have n2_ := Aside0.mk ((zcd_20 : w.heap.size ≤ gb486)); have n3_ := Aside0.mk ((zcd_20 : w.heap.size ≤ gb486)); clear HB; have HB := n0_; have BK486 := n1_; have GW486 := n2_; have GE486 := n3_; clear n0_ n1_ n2_ n3_; clear hb hbox hg; have hcz4_0 : w3.cell? ⟨gb486, 0, none⟩ = some (.int .i64 a0_0) := (blk_cell BK486.out 0).trans rfl; have hcz4_1 : w3.cell? ⟨gb486, 1, none⟩ = some (.int .i64 a0_1) := (blk_cell BK486.out 1).trans rfl; have hcz4_2 : w3.cell? ⟨gb486, 2, none⟩ = some (.int .i64 a0_2) := (blk_cell BK486.out 2).trans rfl; have hcz4_3 : w3.cell? ⟨gb486, 3, none⟩ = some (.string a0_3) := (blk_cell BK486.out 3).trans rfl; have hfz4_0 := blk_frozen BK486.out 0; have hfz4_1 := blk_frozen BK486.out 1; have hfz4_2 := blk_frozen BK486.out 2; have hfz4_3 := blk_frozen BK486.out 3) | ((with_reducible refine gate_callee (f := 29) rfl ?_); refine goesL_ (some 4) rfl rfl Tryd.func29 (by kernel_rfl) rfl #[.agg #[.int .i64 a0_0, .int .i64 a0_1, .int .i64 a0_2, .string a0_3]] rfl zcd_3 ?_; (with_reducible refine (impl_deedTextM.calls a0_0 a0_1 a0_2 a0_3 t487 _ A2.out).mono ?_); rintro e w5 ⟨rfl, hb⟩; refine ⟨_, rfl, ?_⟩; have n0_ := Aside0.mk (blk_below (g := gb486) (o := .cells #[.int .i64 a0_0, .int .i64 a0_1, .int .i64 a0_2, .string a0_3] 30 (0, 0)) (by (with_reducible repeat (first | refine blk_drewN ?_ _ | refine blk_drew ?_ | refine blk_alloc ?_ _)); exact BK486.out) hb); have n1_ := Aside0.mk (below_step zcd_157 hb); clear BK486; clear HB; have BK486 := n0_; have HB := n1_; clear n0_ n1_; (try clear hb); (try clear hb2); (try clear hk); (try clear hi)))
 go_ret
 exact ⟨zcd_13, zcd_157⟩
end Go.Proofs.YtnkfbappnpnaoaaDoor.Q
namespace Go.Proofs.YtnkfbappnpnaoaaDoor.Q
open Go.RowKit Go.Proofs.YtnkfbappnpnaoaaDoorW.PrintWords Go.Proofs.YtnkfbappnpnaoaaDoorW.PrintLast Go.Proofs.YtnkfbappnpnaoaaDoorW.PrintMore
attribute [local go_sem] max2_int min2_int max_two min_two max_three min_three max_four min_four   -- for this text's walks alone
set_option linter.unusedVariables false
set_option linter.unusedSimpArgs false
def impl_ReadDeed.f (a0 : ByteArray) : Option (Int × Int × Int × ByteArray × Bool) := (impl_readDeed.f a0).bind fun bt493 => (some (bt493.1, bt493.2.1, bt493.2.2.1, bt493.2.2.2.1, bt493.2.2.2.2))
set_option maxHeartbeats 8000000 in
set_option maxRecDepth 100000 in
theorem impl_ReadDeed.calls (a0 : ByteArray) (r1 : Int) (r2 : Int) (r3 : Int) (r4 : ByteArray) (r5 : Bool) (w : World) (hG : Glob w) (h : impl_ReadDeed.f a0 = some (r1, r2, r3, r4, r5)) :
    Calls Tryd.prog 16 #[.string a0] w fun e w' => e = .returned (.tuple #[.agg #[.int .i64 r1, .int .i64 r2, .int .i64 r3, .string r4], .bool r5]) ∧ Below w.heap.size w w' := by
 have HG := Aside0.mk hG
 clear hG
 have hu30 := Tryd.underlying30
 have HB := Aside0.mk (Below.refl w.heap.size w)
 have H : ((impl_readDeed.f a0).bind fun bt493 => (some (bt493.1, bt493.2.1, bt493.2.2.1, bt493.2.2.2.1, bt493.2.2.2.2))) = some (r1, r2, r3, r4, r5) := h
 clear h
 replace H := Option.bind_eq_some_iff.mp H
 obtain ⟨⟨t493, t494, t495, t496, t497⟩, A20, H⟩ := H
 try dsimp only at H
 have A2 := Aside0.mk A20
 clear A20
 simp only [Option.some.injEq, Prod.mk.injEq] at H
 obtain ⟨rfl, rfl, rfl, rfl, rfl⟩ := H
 go_enter Tryd.func16, Tryd.ntmps16
 go_wp2_with (first | ((with_reducible refine gate_dst (N := 2) rfl ?_); refine box_event ?hg (N := 2) ?hd (cs := #[.int .i64 0, .int .i64 0, .int .i64 0, .string (⟨#[]⟩ : ByteArray)]) (t := 30) ?hr ?_; (case hd => rfl); (case hg => rfl); (case hr => exact zcd_12); intro gb492 hg w3 hbox hb; have n0_ := Aside0.mk (below_step zcd_4 hb); have n1_ := Aside0.mk (hbox); have n2_ := Aside0.mk ((zcd_20 : w.heap.size ≤ gb492)); have n3_ := Aside0.mk ((zcd_20 : w.heap.size ≤ gb492)); clear HB; have HB := n0_; have BK492 := n1_; have GW492 := n2_; have GE492 := n3_; clear n0_ n1_ n2_ n3_; clear hb hbox hg) | ((with_reducible refine gate_callee (f := 33) rfl ?_); refine goesL_ (some 5) rfl rfl Tryd.func33 (by kernel_rfl) rfl #[.string a0] rfl zcd_3 ?_; (with_reducible refine (impl_readDeed.calls a0 t493 t494 t495 t496 t497 _ ?side1 A2.out).mono ?_); (case side1 => refine Glob.below HG.out ?_; repeat (first | (with_reducible first | exact HB.out | apply below_alloc | apply pw_below_drewN | apply below_drew1 | refine below_set ?_ GE492.out) | exact HB.out)); rintro e w4 ⟨rfl, hb⟩; refine ⟨_, rfl, ?_⟩; have n0_ := Aside0.mk (blk_below (g := gb492) (o := .cells #[.int .i64 0, .int .i64 0, .int .i64 0, .string (⟨#[]⟩ : ByteArray)] 30 (0, 0)) (by (with_reducible repeat (first | refine blk_drewN ?_ _ | refine blk_drew ?_ | refine blk_alloc ?_ _)); exact BK492.out) hb); have n1_ := Aside0.mk (below_step zcd_158 hb); clear BK492; clear HB; have BK492 := n0_; have HB := n1_; clear n0_ n1_; (try clear hb); (try clear hb2); (try clear hk); (try clear hi); have hcz5_0 : w4.cell? ⟨gb492, 0, none⟩ = some (.int .i64 0) := (blk_cell BK492.out 0).trans rfl; have hcz5_1 : w4.cell? ⟨gb492, 1, none⟩ = some (.int .i64 0) := (blk_cell BK492.out 1).trans rfl; have hcz5_2 : w4.cell? ⟨gb492, 2, none⟩ = some (.int .i64 0) := (blk_cell BK492.out 2).trans rfl; have hcz5_3 : w4.cell? ⟨gb492, 3, none⟩ = some (.string (⟨#[]⟩ : ByteArray)) := (blk_cell BK492.out 3).trans rfl; have hfz5_0 := blk_frozen BK492.out 0; have hfz5_1 := blk_frozen BK492.out 1; have hfz5_2 := blk_frozen BK492.out 2; have hfz5_3 := blk_frozen BK492.out 3))
 refine bodyPost_ret (results_ct rfl _ _ gb492 30 #[.int .i64 t493, .int .i64 t494, .int .i64 t495, .string t496] (0, 0) _ rfl (by (with_reducible repeat (first | refine blk_drewN ?_ _ | refine blk_drew ?_ | refine blk_alloc ?_ _)); refine blk_put (cs := #[.int .i64 t493, .int .i64 t494, .int .i64 t495, .string (⟨#[]⟩ : ByteArray)]) ?_ 3 _ rfl; (with_reducible repeat (first | refine blk_drewN ?_ _ | refine blk_drew ?_ | refine blk_alloc ?_ _)); refine blk_put (cs := #[.int .i64 t493, .int .i64 t494, .int .i64 0, .string (⟨#[]⟩ : ByteArray)]) ?_ 2 _ rfl; (with_reducible repeat (first | refine blk_drewN ?_ _ | refine blk_drew ?_ | refine blk_alloc ?_ _)); refine blk_put (cs := #[.int .i64 t493, .int .i64 0, .int .i64 0, .string (⟨#[]⟩ : ByteArray)]) ?_ 1 _ rfl; (with_reducible repeat (first | refine blk_drewN ?_ _ | refine blk_drew ?_ | refine blk_alloc ?_ _)); refine blk_put (cs := #[.int .i64 0, .int .i64 0, .int .i64 0, .string (⟨#[]⟩ : ByteArray)]) ?_ 0 _ rfl; (with_reducible repeat (first | refine blk_drewN ?_ _ | refine blk_drew ?_ | refine blk_alloc ?_ _)); exact BK492.out) Tryd.underlying30 rfl (by kernel_rfl)) rfl ?_
 exact ⟨zcd_13, zcd_158⟩
end Go.Proofs.YtnkfbappnpnaoaaDoor.Q
namespace Go.Proofs.YtnkfbappnpnaoaaDoor.Q
open Go.RowKit Go.Proofs.YtnkfbappnpnaoaaDoorW.PrintWords Go.Proofs.YtnkfbappnpnaoaaDoorW.PrintLast Go.Proofs.YtnkfbappnpnaoaaDoorW.PrintMore
attribute [local go_sem] max2_int min2_int max_two min_two max_three min_three max_four min_four   -- for this text's walks alone
set_option linter.unusedVariables false
set_option linter.unusedSimpArgs false
def impl_arePeople.f (a0 : Int) : Option (Bool) := if a0 ≥ 1 then (some (decide (a0 ≤ 6))) else (some false)
set_option maxHeartbeats 8000000 in
set_option maxRecDepth 100000 in
theorem impl_arePeople.calls (a0 : Int) (r : Bool) (w : World) (h : impl_arePeople.f a0 = some r) :
    Calls Tryd.prog 57 #[.int .i64 a0] w fun e w' => e = .returned (.bool r) ∧ Drawn0 w w' := by
 have H : (if a0 ≥ 1 then (some (decide (a0 ≤ 6))) else (some false)) = some r := h
 clear h
 by_cases c2 : a0 ≥ 1
 {
 rw [if_pos c2] at H
 have c2b0 : decide (1 ≤ a0) = true := decide_eq_true c2
 clear c2
 obtain rfl := Option.some.inj H
 go_enter Tryd.func57, Tryd.ntmps57
 go_wp2
 go_ret
 exact ⟨zcd_7, zcd_26⟩
 }
 {
 rw [if_neg c2] at H
 have c2b0 : decide (1 ≤ a0) = false := decide_eq_false c2
 clear c2
 obtain rfl := Option.some.inj H
 go_enter Tryd.func57, Tryd.ntmps57
 go_wp2
 go_ret
 exact ⟨zcd_7, zcd_26⟩
 }
end Go.Proofs.YtnkfbappnpnaoaaDoor.Q
namespace Go.Proofs.YtnkfbappnpnaoaaDoor.Q
open Go.RowKit Go.Proofs.YtnkfbappnpnaoaaDoorW.PrintWords Go.Proofs.YtnkfbappnpnaoaaDoorW.PrintLast Go.Proofs.YtnkfbappnpnaoaaDoorW.PrintMore
attribute [local go_sem] max2_int min2_int max_two min_two max_three min_three max_four min_four   -- for this text's walks alone
set_option linter.unusedVariables false
set_option linter.unusedSimpArgs false
def impl_isCrowd.f (a0 : Int) (a1 : Int) : Option (Bool) := (impl_arePeople.f a0).bind fun t488 => (if t488 = true then (if a1 ≥ 0 then (if 0 ≤ a0 then (some (decide (a1 < (shl .i64 1 a0)))) else (none)) else (some false)) else (some false))
set_option maxHeartbeats 8000000 in
set_option maxRecDepth 100000 in
theorem impl_isCrowd.calls (a0 : Int) (a1 : Int) (r : Bool) (w : World) (h : impl_isCrowd.f a0 a1 = some r) :
    Calls Tryd.prog 46 #[.int .i64 a0, .int .i64 a1] w fun e w' => e = .returned (.bool r) ∧ Drawn0 w w' := by
 have H : ((impl_arePeople.f a0).bind fun t488 => (if t488 = true then (if a1 ≥ 0 then (if 0 ≤ a0 then (some (decide (a1 < (shl .i64 1 a0)))) else (none)) else (some false)) else (some false))) = some r := h
 clear h
 replace H := Option.bind_eq_some_iff.mp H
 obtain ⟨t488, A30, H⟩ := H
 try dsimp only at H
 have A3 := Aside0.mk A30
 clear A30
 by_cases c4 : t488 = true
 {
 subst c4
 rw [if_pos rfl] at H
 by_cases c5 : a1 ≥ 0
 {
 rw [if_pos c5] at H
 have c5b0 : decide (0 ≤ a1) = true := decide_eq_true c5
 clear c5
 by_cases c6 : 0 ≤ a0
 {
 rw [if_pos c6] at H
 have c6b0 := eq_true c6
 have c6b1 : decide (0 ≤ a0) = true := decide_eq_true c6
 clear c6
 obtain ⟨ji7, hji7⟩ : ∃ j_ : Int, (shl .i64 1 a0) = j_ := ⟨_, rfl⟩
 replace H : (some (decide (a1 < (ji7)))) = some r := by first | (rw [hji7] at H; exact H) | (simp only [hji7] at H ⊢; exact H)
 (try rw [hji7] at A3)
 have hji7_ : (IntKind.i64.wrap (1 * 2 ^ min a0.toNat 64)) = ji7 := hji7
 have hji7z : a0 ≤ 64 → (IntKind.i64.wrap (1 * 2 ^ a0.toNat)) = ji7 := shl_small hji7
 have hji7u : (IntKind.i64.wrap (2 ^ min a0.toNat 64)) = ji7 := by have h_ := hji7_; rw [Int.one_mul] at h_; exact h_
 have hji7v : a0 ≤ 64 → (IntKind.i64.wrap (2 ^ a0.toNat)) = ji7 := fun hle_ => by have h_ := hji7z hle_; rw [Int.one_mul] at h_; exact h_
 have hji7y : (wrap64 (1 * 2 ^ min a0.toNat 64)) = ji7 := (i64_w _).symm.trans hji7_
 have hji7x : a0 ≤ 64 → (wrap64 (1 * 2 ^ a0.toNat)) = ji7 := fun h_ => (i64_w _).symm.trans (hji7z h_)
 obtain rfl := Option.some.inj H
 go_enter Tryd.func46, Tryd.ntmps46
 go_wp2_with (first | ((with_reducible refine gate_callee (f := 57) rfl ?_); refine goesL_ (some 6) rfl rfl Tryd.func57 (by kernel_rfl) rfl #[.int .i64 a0] rfl zcd_3 ?_; (with_reducible refine (impl_arePeople.calls a0 true _ A3.out).mono ?_); rintro e w' ⟨rfl, ⟨nd, rfl⟩⟩; refine ⟨_, rfl, ?_⟩))
 go_ret
 exact ⟨by first | rfl | (simp; done) | (simp only [← hji7] <;> (first | rfl | simp)) | (simp [*]; done), zcd_26⟩
 }
 {
 rw [if_neg c6] at H
 exact absurd H (by simp)
 }
 }
 {
 rw [if_neg c5] at H
 have c5b0 : decide (0 ≤ a1) = false := decide_eq_false c5
 clear c5
 obtain rfl := Option.some.inj H
 go_enter Tryd.func46, Tryd.ntmps46
 go_wp2_with (first | ((with_reducible refine gate_callee (f := 57) rfl ?_); refine goesL_ (some 6) rfl rfl Tryd.func57 (by kernel_rfl) rfl #[.int .i64 a0] rfl zcd_3 ?_; (with_reducible refine (impl_arePeople.calls a0 true _ A3.out).mono ?_); rintro e w' ⟨rfl, ⟨nd, rfl⟩⟩; refine ⟨_, rfl, ?_⟩))
 go_ret
 exact ⟨zcd_7, zcd_26⟩
 }
 }
 {
 replace c4 := Bool.eq_false_iff.mpr c4
 subst c4
 rw [if_neg (show ¬ (false = true) by decide)] at H
 obtain rfl := Option.some.inj H
 go_enter Tryd.func46, Tryd.ntmps46
 go_wp2_with (first | ((with_reducible refine gate_callee (f := 57) rfl ?_); refine goesL_ (some 6) rfl rfl Tryd.func57 (by kernel_rfl) rfl #[.int .i64 a0] rfl zcd_3 ?_; (with_reducible refine (impl_arePeople.calls a0 false _ A3.out).mono ?_); rintro e w' ⟨rfl, ⟨nd, rfl⟩⟩; refine ⟨_, rfl, ?_⟩))
 go_ret
 exact ⟨zcd_7, zcd_26⟩
 }
end Go.Proofs.YtnkfbappnpnaoaaDoor.Q
namespace Go.Proofs.YtnkfbappnpnaoaaDoor.Q
open Go.RowKit Go.Proofs.YtnkfbappnpnaoaaDoorW.PrintWords Go.Proofs.YtnkfbappnpnaoaaDoorW.PrintLast Go.Proofs.YtnkfbappnpnaoaaDoorW.PrintMore
attribute [local go_sem] max2_int min2_int max_two min_two max_three min_three max_four min_four   -- for this text's walks alone
set_option linter.unusedVariables false
set_option linter.unusedSimpArgs false
def impl_CrowdOk.f (a0 : Int) (a1 : Int) : Option (Bool) := (impl_isCrowd.f a0 a1).bind fun t489 => (some t489)
set_option maxHeartbeats 8000000 in
set_option maxRecDepth 100000 in
theorem impl_CrowdOk.calls (a0 : Int) (a1 : Int) (r : Bool) (w : World) (h : impl_CrowdOk.f a0 a1 = some r) :
    Calls Tryd.prog 32 #[.int .i64 a0, .int .i64 a1] w fun e w' => e = .returned (.bool r) ∧ Drawn0 w w' := by
 have H : ((impl_isCrowd.f a0 a1).bind fun t489 => (some t489)) = some r := h
 clear h
 replace H := Option.bind_eq_some_iff.mp H
 obtain ⟨t489, A30, H⟩ := H
 try dsimp only at H
 have A3 := Aside0.mk A30
 clear A30
 obtain rfl := Option.some.inj H
 go_enter Tryd.func32, Tryd.ntmps32
 go_wp2_with (first | ((with_reducible refine gate_callee (f := 46) rfl ?_); refine goesL_ (some 7) rfl rfl Tryd.func46 (by kernel_rfl) rfl #[.int .i64 a0, .int .i64 a1] rfl zcd_3 ?_; (with_reducible refine (impl_isCrowd.calls a0 a1 t489 _ A3.out).mono ?_); rintro e w' ⟨rfl, ⟨nd, rfl⟩⟩; refine ⟨_, rfl, ?_⟩))
 go_ret
 exact ⟨zcd_7, zcd_26⟩
end Go.Proofs.YtnkfbappnpnaoaaDoor.Q
namespace Go.Proofs.YtnkfbappnpnaoaaDoor.Q
open Go.RowKit Go.Proofs.YtnkfbappnpnaoaaDoorW.PrintWords Go.Proofs.YtnkfbappnpnaoaaDoorW.PrintLast Go.Proofs.YtnkfbappnpnaoaaDoorW.PrintMore
attribute [local go_sem] max2_int min2_int max_two min_two max_three min_three max_four min_four   -- for this text's walks alone
set_option linter.unusedVariables false
set_option linter.unusedSimpArgs false
def laws_alive.f  : Option (Bool) := (impl_CrowdOk.f 2 3).bind fun t490 => (if t490 = true then ((impl_CrowdOk.f 2 4).bind fun t491 => (some (!t491))) else (some false))
set_option maxHeartbeats 8000000 in
set_option maxRecDepth 100000 in
theorem laws_alive.calls  (r : Bool) (w : World) (h : laws_alive.f  = some r) :
    Calls Tryd.prog 15 #[] w fun e w' => e = .returned (.bool r) ∧ Drawn0 w w' := by
 have H : ((impl_CrowdOk.f 2 3).bind fun t490 => (if t490 = true then ((impl_CrowdOk.f 2 4).bind fun t491 => (some (!t491))) else (some false))) = some r := h
 clear h
 replace H := Option.bind_eq_some_iff.mp H
 obtain ⟨t490, A10, H⟩ := H
 try dsimp only at H
 have A1 := Aside0.mk A10
 clear A10
 by_cases c2 : t490 = true
 {
 subst c2
 rw [if_pos rfl] at H
 replace H := Option.bind_eq_some_iff.mp H
 obtain ⟨t491, A30, H⟩ := H
 try dsimp only at H
 have A3 := Aside0.mk A30
 clear A30
 obtain rfl := Option.some.inj H
 go_enter Tryd.func15, Tryd.ntmps15
 go_wp2_with (first | ((with_reducible refine gate_callee (f := 32) rfl ?_); refine goesL_ (some 1) rfl rfl Tryd.func32 (by kernel_rfl) rfl #[.int .i64 2, .int .i64 3] rfl zcd_3 ?_; (with_reducible refine (impl_CrowdOk.calls 2 3 true _ A1.out).mono ?_); rintro e w' ⟨rfl, ⟨nd, rfl⟩⟩; refine ⟨_, rfl, ?_⟩) | (go_at_call 32; (with_reducible refine (impl_CrowdOk.calls 2 4 t491 _ A3.out).mono ?_); rintro e w' ⟨rfl, ⟨nd, rfl⟩⟩))
 go_ret
 exact ⟨zcd_7, zcd_26⟩
 }
 {
 replace c2 := Bool.eq_false_iff.mpr c2
 subst c2
 rw [if_neg (show ¬ (false = true) by decide)] at H
 obtain rfl := Option.some.inj H
 go_enter Tryd.func15, Tryd.ntmps15
 go_wp2_with (first | ((with_reducible refine gate_callee (f := 32) rfl ?_); refine goesL_ (some 1) rfl rfl Tryd.func32 (by kernel_rfl) rfl #[.int .i64 2, .int .i64 3] rfl zcd_3 ?_; (with_reducible refine (impl_CrowdOk.calls 2 3 false _ A1.out).mono ?_); rintro e w' ⟨rfl, ⟨nd, rfl⟩⟩; refine ⟨_, rfl, ?_⟩))
 go_ret
 exact ⟨zcd_7, zcd_26⟩
 }
end Go.Proofs.YtnkfbappnpnaoaaDoor.Q
namespace Go.Proofs.YtnkfbappnpnaoaaDoor.Q
open Go.RowKit Go.Proofs.YtnkfbappnpnaoaaDoorW.PrintWords Go.Proofs.YtnkfbappnpnaoaaDoorW.PrintLast Go.Proofs.YtnkfbappnpnaoaaDoorW.PrintMore
attribute [local go_sem] max2_int min2_int max_two min_two max_three min_three max_four min_four   -- for this text's walks alone
set_option linter.unusedVariables false
set_option linter.unusedSimpArgs false
def spec_DrawDeedText.f (k : Nat) (l0 : List Int) : Option (Int × Int × Int × ByteArray) := (spec_l20Open.f l0).bind fun bt463 => ((spec_l20Place.f k bt463.1 bt463.2 0).bind fun bt466 => ((spec_l20Deed.f k bt463.1 bt466.2.2.2 bt466.1 bt466.2.1 bt466.2.2.1).bind fun bt474 => (some (bt474.1, bt474.2.1, bt474.2.2.1, bt474.2.2.2.1))))
set_option maxHeartbeats 8000000 in
set_option maxRecDepth 100000 in
theorem spec_DrawDeedText.calls (k : Nat) (A0 : Option Addr) (c0 : Nat) (l0 : List Int) (r1 : Int) (r2 : Int) (r3 : Int) (r4 : ByteArray) (w : World) (hr0 : Kd.C (Kd.int .u8) w A0 l0.length l0) (hc0 : l0.length ≤ c0) (h : spec_DrawDeedText.f k l0 = some (r1, r2, r3, r4)) :
    Calls Tryd.prog 12 #[.slice A0 l0.length c0] w fun e w' => e = .returned (.agg #[.int .i64 r1, .int .i64 r2, .int .i64 r3, .string r4]) ∧ Below w.heap.size w w' := by
 have hu30 := Tryd.underlying30
 have HR0 := Aside0.mk hr0
 have HC0 := Aside0.mk hc0
 clear hr0 hc0
 have HB := Aside0.mk (Below.refl w.heap.size w)
 have H : ((spec_l20Open.f l0).bind fun bt463 => ((spec_l20Place.f k bt463.1 bt463.2 0).bind fun bt466 => ((spec_l20Deed.f k bt463.1 bt466.2.2.2 bt466.1 bt466.2.1 bt466.2.2.1).bind fun bt474 => (some (bt474.1, bt474.2.1, bt474.2.2.1, bt474.2.2.2.1))))) = some (r1, r2, r3, r4) := h
 clear h
 replace H := Option.bind_eq_some_iff.mp H
 obtain ⟨⟨t463, t464⟩, A20, H⟩ := H
 try dsimp only at H
 have A2 := Aside0.mk A20
 clear A20
 replace H := Option.bind_eq_some_iff.mp H
 obtain ⟨⟨t466, t467, t470, t473⟩, A30, H⟩ := H
 try dsimp only at H
 have A3 := Aside0.mk A30
 clear A30
 replace H := Option.bind_eq_some_iff.mp H
 obtain ⟨⟨t474, t475, t476, t477, t478⟩, A40, H⟩ := H
 try dsimp only at H
 have A4 := Aside0.mk A40
 clear A40
 simp only [Option.some.injEq, Prod.mk.injEq] at H
 obtain ⟨rfl, rfl, rfl, rfl⟩ := H
 go_enter Tryd.func12, Tryd.ntmps12
 go_wp2_with (first | ((with_reducible refine gate_dst (N := 2) rfl ?_); refine box_event ?hg (N := 2) ?hd (cs := #[.int .i64 0, .int .i64 0, .int .i64 0, .string (⟨#[]⟩ : ByteArray)]) (t := 30) ?hr ?_; (case hd => rfl); (case hg => rfl); (case hr => exact zcd_12); intro gb462 hg w5 hbox hb; have n0_ := Aside0.mk (below_step zcd_4 hb); have n1_ := Aside0.mk (hbox); have n2_ := Aside0.mk ((zcd_20 : w.heap.size ≤ gb462)); have n3_ := Aside0.mk ((zcd_20 : w.heap.size ≤ gb462)); clear HB; have HB := n0_; have BK462 := n1_; have GW462 := n2_; have GE462 := n3_; clear n0_ n1_ n2_ n3_; clear hb hbox hg) | ((with_reducible refine gate_callee (f := 26) rfl ?_); refine goesL_ (some 5) rfl rfl Tryd.func26 (by kernel_rfl) rfl #[.slice A0 l0.length c0] rfl zcd_3 ?_; (with_reducible refine (spec_l20Open.calls _ _ l0 t463 t464 w _ ?side1 ?side2 ?side3 A2.out).mono ?_); (case side1 => repeat (first | (with_reducible first | exact HB.out | apply below_alloc | apply pw_below_drewN | apply below_drew1 | refine below_set ?_ GE462.out) | exact HB.out)); (case side2 => exact HR0.out); (case side3 => exact HC0.out); rintro e w6 ⟨g465, rfl, hi, hb, hb2⟩; refine ⟨_, rfl, ?_⟩; have n0_ := Aside0.mk (blk_below (g := gb462) (o := .cells #[.int .i64 0, .int .i64 0, .int .i64 0, .string (⟨#[]⟩ : ByteArray)] 30 (0, 0)) zcd_86 hb2); have n1_ := Aside0.mk (hb); have n2_ := Aside0.mk (hi); have n3_ := Aside0.mk (IsS63.ne_blk hi (blk_below (g := gb462) (o := .cells #[.int .i64 0, .int .i64 0, .int .i64 0, .string (⟨#[]⟩ : ByteArray)] 30 (0, 0)) zcd_86 hb2) (by decide)); have n4_ := Aside0.mk (Ne.symm (IsS63.ne_blk hi (blk_below (g := gb462) (o := .cells #[.int .i64 0, .int .i64 0, .int .i64 0, .string (⟨#[]⟩ : ByteArray)] 30 (0, 0)) zcd_86 hb2) (by decide))); clear BK462; clear HB; have BK462 := n0_; have HB := n1_; have HI465 := n2_; have NB465_462 := n3_; have NB462_465 := n4_; clear n0_ n1_ n2_ n3_ n4_; (try clear hb); (try clear hb2); (try clear hk); (try clear hi)) | ((with_reducible refine gate_callee (f := 28) rfl ?_); refine goesL_ (some 8) rfl rfl Tryd.func28 (by kernel_rfl) rfl #[.pointer (some ⟨g465, 0, none⟩), .int .i64 0] rfl zcd_3 ?_; (with_reducible refine (spec_l20Place.calls k g465 t463 t464 0 t466 t467 t470 t473 w _ ?side1 ?side2 A3.out).mono ?_); (case side1 => exact zcd_159); (case side2 => exact zcd_87); rintro e w7 ⟨v468, v471, rfl, ho0, ho1, hi, hb, hk⟩; refine ⟨_, rfl, ?_⟩; have n0_ := Aside0.mk (KeepBut.blk hk (g' := gb462) (o := .cells #[.int .i64 0, .int .i64 0, .int .i64 0, .string (⟨#[]⟩ : ByteArray)] 30 (0, 0)) zcd_86 NB462_465.out (by simp)); have n1_ := Aside0.mk (Kd.R_lower ho0 (below_size zcd_87)); have n2_ := Aside0.mk (Kd.R_lower ho1 (below_size zcd_87)); have n3_ := Aside0.mk (hb); have n4_ := Aside0.mk (hi); clear BK462; clear HB; clear HI465; have BK462 := n0_; have HO469 := n1_; have HO472 := n2_; have HB := n3_; have HI465 := n4_; clear n0_ n1_ n2_ n3_ n4_; (try clear hb); (try clear hb2); (try clear hk); (try clear hi); (try clear ho0); (try clear ho1); obtain ⟨Ao8, co8, eo8⟩ := Kd.R_slice HO469.out; subst eo8; obtain ⟨Ao9, co9, eo9⟩ := Kd.R_slice HO472.out; subst eo9) | ((with_reducible refine gate_callee (f := 27) rfl ?_); refine goesL_ (some 9) rfl rfl Tryd.func27 (by kernel_rfl) rfl #[.pointer (some ⟨g465, 0, none⟩), .agg #[.int .i64 t466, .slice Ao8 t467.length co8, .slice Ao9 t470.length co9]] rfl zcd_3 ?_; (with_reducible refine (spec_l20Deed.calls k g465 t463 t473 t466 _ _ t467 _ _ t470 t474 t475 t476 t477 t478 w _ ?side1 ?side2 ?side3 ?side4 ?side5 ?side6 ?side7 ?side8 A4.out).mono ?_); (case side1 => exact zcd_159); (case side2 => exact zcd_87); (case side3 => repeat (first | exact (Kd.R_reads' HO469.out).2.2 | (with_reducible refine Kd.C_alloc ?_ _) | (with_reducible refine Kd.C_drewN ?_ _) | (with_reducible refine Kd.C_drew ?_))); (case side4 => exact (Kd.R_reads' HO469.out).2.1); (case side5 => exact far_slice (IsS63.own_ne HI465.out HO469.out (by decide))); (case side6 => repeat (first | exact (Kd.R_reads' HO472.out).2.2 | (with_reducible refine Kd.C_alloc ?_ _) | (with_reducible refine Kd.C_drewN ?_ _) | (with_reducible refine Kd.C_drew ?_))); (case side7 => exact (Kd.R_reads' HO472.out).2.1); (case side8 => exact far_slice (IsS63.own_ne HI465.out HO472.out (by decide))); rintro e w10 ⟨rfl, hi, hb, hk⟩; refine ⟨_, rfl, ?_⟩; have n0_ := Aside0.mk (KeepBut.blk hk (g' := gb462) (o := .cells #[.int .i64 0, .int .i64 0, .int .i64 0, .string (⟨#[]⟩ : ByteArray)] 30 (0, 0)) zcd_86 NB462_465.out (by simp)); have n1_ := Aside0.mk (Kd.R_mono (Kd.R_keep (IsS63.apart (show IsS63 w _ g465 t463 t473 from by repeat (first | (with_reducible first | exact HI465.out | apply IsS63.alloc | apply IsS63.drewN | apply IsS63.drew | apply IsS63.set_1 | refine IsS63.far ?_ NB465_462.out _) | exact HI465.out)) (by (with_reducible repeat (first | apply Kd.R_alloc | apply Kd.R_drewN | apply Kd.R_drew)); exact HO469.out) (by decide)) hk (fun _ h => h.2)) (fun _ h => h.1)); have n2_ := Aside0.mk (Kd.R_mono (Kd.R_keep (IsS63.apart (show IsS63 w _ g465 t463 t473 from by repeat (first | (with_reducible first | exact HI465.out | apply IsS63.alloc | apply IsS63.drewN | apply IsS63.drew | apply IsS63.set_1 | refine IsS63.far ?_ NB465_462.out _) | exact HI465.out)) (by (with_reducible repeat (first | apply Kd.R_alloc | apply Kd.R_drewN | apply Kd.R_drew)); exact HO472.out) (by decide)) hk (fun _ h => h.2)) (fun _ h => h.1)); have n3_ := Aside0.mk (hb); have n4_ := Aside0.mk (hi); clear BK462; clear HO469; clear HO472; clear HB; clear HI465; have BK462 := n0_; have HO469 := n1_; have HO472 := n2_; have HB := n3_; have HI465 := n4_; clear n0_ n1_ n2_ n3_ n4_; (try clear hb); (try clear hb2); (try clear hk); (try clear hi); have hnb11 := NB462_465.out; have hnc11 := NB465_462.out; have hcz12_0 : w10.cell? ⟨gb462, 0, none⟩ = some (.int .i64 0) := (blk_cell BK462.out 0).trans rfl; have hcz12_1 : w10.cell? ⟨gb462, 1, none⟩ = some (.int .i64 0) := (blk_cell BK462.out 1).trans rfl; have hcz12_2 : w10.cell? ⟨gb462, 2, none⟩ = some (.int .i64 0) := (blk_cell BK462.out 2).trans rfl; have hcz12_3 : w10.cell? ⟨gb462, 3, none⟩ = some (.string (⟨#[]⟩ : ByteArray)) := (blk_cell BK462.out 3).trans rfl; have hfz12_0 := blk_frozen BK462.out 0; have hfz12_1 := blk_frozen BK462.out 1; have hfz12_2 := blk_frozen BK462.out 2; have hfz12_3 := blk_frozen BK462.out 3))
 refine bodyPost_ret (results_cell_row rfl _ _ gb462 30 #[.int .i64 t474, .int .i64 t475, .int .i64 t476, .string t477] (0, 0) _ rfl (by (with_reducible repeat (first | refine blk_drewN ?_ _ | refine blk_drew ?_ | refine blk_alloc ?_ _)); refine blk_put (cs := #[.int .i64 t474, .int .i64 t475, .int .i64 t476, .string (⟨#[]⟩ : ByteArray)]) ?_ 3 _ rfl; (with_reducible repeat (first | refine blk_drewN ?_ _ | refine blk_drew ?_ | refine blk_alloc ?_ _)); refine blk_put (cs := #[.int .i64 t474, .int .i64 t475, .int .i64 0, .string (⟨#[]⟩ : ByteArray)]) ?_ 2 _ rfl; (with_reducible repeat (first | refine blk_drewN ?_ _ | refine blk_drew ?_ | refine blk_alloc ?_ _)); refine blk_put (cs := #[.int .i64 t474, .int .i64 0, .int .i64 0, .string (⟨#[]⟩ : ByteArray)]) ?_ 1 _ rfl; (with_reducible repeat (first | refine blk_drewN ?_ _ | refine blk_drew ?_ | refine blk_alloc ?_ _)); refine blk_put (cs := #[.int .i64 0, .int .i64 0, .int .i64 0, .string (⟨#[]⟩ : ByteArray)]) ?_ 0 _ rfl; (with_reducible repeat (first | refine blk_drewN ?_ _ | refine blk_drew ?_ | refine blk_alloc ?_ _)); exact BK462.out) Tryd.underlying30 rfl (by kernel_rfl)) rfl ?_
 exact ⟨zcd_13, zcd_87⟩
end Go.Proofs.YtnkfbappnpnaoaaDoor.Q
