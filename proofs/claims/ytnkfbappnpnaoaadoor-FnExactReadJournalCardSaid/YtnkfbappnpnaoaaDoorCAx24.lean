/- A part of this claim's proof: functions of the program as plain functions, with the proof that the code comes to their answers, and facts about them. Condition: none of its own. -/
import Derived.Deep.LoopGhost
import Derived.Outline
import Derived.Test.YtnkfbappnpnaoaaDoorCAx1
import Derived.Test.YtnkfbappnpnaoaaDoorCAx2
import Derived.Test.YtnkfbappnpnaoaaDoorCAx4
import Derived.Test.YtnkfbappnpnaoaaDoorCAx19
namespace Go.Proofs.YtnkfbappnpnaoaaDoor.Q
open Go.RowKit Go.Proofs.YtnkfbappnpnaoaaDoorW.PrintWords Go.Proofs.YtnkfbappnpnaoaaDoorW.PrintLast Go.Proofs.YtnkfbappnpnaoaaDoorW.PrintMore
attribute [local go_sem] max2_int min2_int max_two min_two max_three min_three max_four min_four   -- for this text's walks alone
set_option linter.unusedVariables false
set_option linter.unusedSimpArgs false

set_option maxHeartbeats 4000000 in
set_option maxRecDepth 100000 in
theorem readDeed_len0 (a0 : ByteArray) (w : World) (hG : Glob w) (hs : a0.size < 4294967281) (k0 : ByteArray) (hk : (wordsOf a0)[0]? = some k0) (hj : kindIdx k0 = 0) (hl : ((wordsOf a0).length : Int) ≠ 2) :
    Calls Tryd.prog 33 #[.string a0] w fun e w' => e = .returned (.tuple #[.agg #[.int .i64 0, .int .i64 0, .int .i64 0, .string ⟨#[]⟩], .bool false]) ∧ Below w.heap.size w w' := by
  have hS := fun w hG => splitRow a0 ⟨#[32]⟩ w hG hs (by decide)
  have hn := splitB_ne a0 ⟨#[32]⟩ (by decide)
  change ∀ w hG, Calls _ _ _ w fun e w' => ∃ g, e = .returned (.slice (some ⟨g, 0, none⟩) (wordsOf a0).length (wordsOf a0).length) ∧ w'.heap[g]? = some (.cells ((wordsOf a0).map Value.string).toArray 9 (0, 0)) ∧ w.heap.size ≤ g ∧ Below w.heap.size w w' at hS
  change 0 < (wordsOf a0).length at hn
  generalize wordsOf a0 = ws at hS hn hk hl
  replace hl : (((ws.length : Nat) : Int) == 2) = false := beq_eq_false_iff_ne.2 hl
  have hI := idxRow k0
  rw [hj] at hI
  have HG := Aside0.mk hG
  clear hG hj hs
  go_enter Tryd.func33, Tryd.ntmps33
  go_wp2_with (first | (go_at_call 48; refine (hI _ _ _ (heap_alloc_old (heap_alloc_new _ _) _) (Nat.le_refl _)).mono ?_; rintro e w2 ⟨rfl, ⟨nd, rfl⟩⟩) | (go_at_call 47; refine (hS _ (HG.out.below ((Below.refl _ _).alloc (Nat.le_refl _) _))).mono ?_; rintro e w1 ⟨g, rfl, hb, hg, hB⟩; have hc00 : w1.cell? ⟨g, 0, none⟩ = some (.string k0) := (blk_cell hb 0).trans (by simp [hk]); have hc0 := fun o1 o2 => cell_alloc (cell_alloc hc00 o1) o2; clear hc00; have hR := (hB.block w.heap.size (by simp)).trans (heap_alloc_new w _); have hR2 := fun o1 o2 => heap_alloc_old (heap_alloc_old hR o1) o2; have r0 := fun o1 o2 => blk_cell (hR2 o1 o2) 0; have r1 := fun o1 o2 => blk_cell (hR2 o1 o2) 1; have r2 := fun o1 o2 => blk_cell (hR2 o1 o2) 2; have r3 := fun o1 o2 => blk_cell (hR2 o1 o2) 3; have f0 := fun o1 o2 => blk_frozen (hR2 o1 o2) 0; have f1 := fun o1 o2 => blk_frozen (hR2 o1 o2) 1; have f2 := fun o1 o2 => blk_frozen (hR2 o1 o2) 2; have f3 := fun o1 o2 => blk_frozen (hR2 o1 o2) 3; dsimp at r0 r1 r2 r3; replace hR2 := Aside0.mk hR2; have hBw := Aside0.mk (((Below.refl w.heap.size w).alloc (Nat.le_refl _) _).trans (hB.mono (by simp))); clear hR hB))
  refine bodyPost_ret (results_ct rfl _ _ w.heap.size 30 #[.int .i64 0, .int .i64 0, .int .i64 0, .string (⟨#[]⟩ : ByteArray)] (0, 0) _ rfl ?hblk Tryd.underlying30 rfl (by kernel_rfl)) rfl ?_
  case hblk =>
    refine blk_put (cs := #[.int .i64 0, .int .i64 0, .int .i64 0, .string (⟨#[]⟩ : ByteArray)]) ?_ 3 _ rfl
    refine blk_put (cs := #[.int .i64 0, .int .i64 0, .int .i64 0, .string (⟨#[]⟩ : ByteArray)]) ?_ 2 _ rfl
    refine blk_put (cs := #[.int .i64 0, .int .i64 0, .int .i64 0, .string (⟨#[]⟩ : ByteArray)]) ?_ 1 _ rfl
    refine blk_put (cs := #[.int .i64 0, .int .i64 0, .int .i64 0, .string (⟨#[]⟩ : ByteArray)]) ?_ 0 _ rfl
    exact blk_drewN (hR2.out _ _) _
  refine ⟨rfl, ?_⟩
  repeat (first | exact hBw.out | apply below_alloc | apply pw_below_drewN | refine below_set ?_ (Nat.le_refl _))

set_option maxHeartbeats 4000000 in
set_option maxRecDepth 100000 in
theorem readDeed_len1 (a0 : ByteArray) (w : World) (hG : Glob w) (hs : a0.size < 4294967281) (k0 : ByteArray) (hk : (wordsOf a0)[0]? = some k0) (hj : kindIdx k0 = 1) (hl : ((wordsOf a0).length : Int) ≠ 2) :
    Calls Tryd.prog 33 #[.string a0] w fun e w' => e = .returned (.tuple #[.agg #[.int .i64 0, .int .i64 0, .int .i64 0, .string ⟨#[]⟩], .bool false]) ∧ Below w.heap.size w w' := by
  have hS := fun w hG => splitRow a0 ⟨#[32]⟩ w hG hs (by decide)
  have hn := splitB_ne a0 ⟨#[32]⟩ (by decide)
  change ∀ w hG, Calls _ _ _ w fun e w' => ∃ g, e = .returned (.slice (some ⟨g, 0, none⟩) (wordsOf a0).length (wordsOf a0).length) ∧ w'.heap[g]? = some (.cells ((wordsOf a0).map Value.string).toArray 9 (0, 0)) ∧ w.heap.size ≤ g ∧ Below w.heap.size w w' at hS
  change 0 < (wordsOf a0).length at hn
  generalize wordsOf a0 = ws at hS hn hk hl
  replace hl : (((ws.length : Nat) : Int) == 2) = false := beq_eq_false_iff_ne.2 hl
  have hI := idxRow k0
  rw [hj] at hI
  have HG := Aside0.mk hG
  clear hG hj hs
  go_enter Tryd.func33, Tryd.ntmps33
  go_wp2_with (first | (go_at_call 48; refine (hI _ _ _ (heap_alloc_old (heap_alloc_new _ _) _) (Nat.le_refl _)).mono ?_; rintro e w2 ⟨rfl, ⟨nd, rfl⟩⟩) | (go_at_call 47; refine (hS _ (HG.out.below ((Below.refl _ _).alloc (Nat.le_refl _) _))).mono ?_; rintro e w1 ⟨g, rfl, hb, hg, hB⟩; have hc00 : w1.cell? ⟨g, 0, none⟩ = some (.string k0) := (blk_cell hb 0).trans (by simp [hk]); have hc0 := fun o1 o2 => cell_alloc (cell_alloc hc00 o1) o2; clear hc00; have hR := (hB.block w.heap.size (by simp)).trans (heap_alloc_new w _); have hR2 := fun o1 o2 => heap_alloc_old (heap_alloc_old hR o1) o2; have r0 := fun o1 o2 => blk_cell (hR2 o1 o2) 0; have r1 := fun o1 o2 => blk_cell (hR2 o1 o2) 1; have r2 := fun o1 o2 => blk_cell (hR2 o1 o2) 2; have r3 := fun o1 o2 => blk_cell (hR2 o1 o2) 3; have f0 := fun o1 o2 => blk_frozen (hR2 o1 o2) 0; have f1 := fun o1 o2 => blk_frozen (hR2 o1 o2) 1; have f2 := fun o1 o2 => blk_frozen (hR2 o1 o2) 2; have f3 := fun o1 o2 => blk_frozen (hR2 o1 o2) 3; dsimp at r0 r1 r2 r3; replace hR2 := Aside0.mk hR2; have hBw := Aside0.mk (((Below.refl w.heap.size w).alloc (Nat.le_refl _) _).trans (hB.mono (by simp))); clear hR hB))
  refine bodyPost_ret (results_ct rfl _ _ w.heap.size 30 #[.int .i64 0, .int .i64 0, .int .i64 0, .string (⟨#[]⟩ : ByteArray)] (0, 0) _ rfl ?hblk Tryd.underlying30 rfl (by kernel_rfl)) rfl ?_
  case hblk =>
    refine blk_put (cs := #[.int .i64 0, .int .i64 0, .int .i64 0, .string (⟨#[]⟩ : ByteArray)]) ?_ 3 _ rfl
    refine blk_put (cs := #[.int .i64 0, .int .i64 0, .int .i64 0, .string (⟨#[]⟩ : ByteArray)]) ?_ 2 _ rfl
    refine blk_put (cs := #[.int .i64 0, .int .i64 0, .int .i64 0, .string (⟨#[]⟩ : ByteArray)]) ?_ 1 _ rfl
    refine blk_put (cs := #[.int .i64 0, .int .i64 0, .int .i64 0, .string (⟨#[]⟩ : ByteArray)]) ?_ 0 _ rfl
    exact blk_drewN (hR2.out _ _) _
  refine ⟨rfl, ?_⟩
  repeat (first | exact hBw.out | apply below_alloc | apply pw_below_drewN | refine below_set ?_ (Nat.le_refl _))

set_option maxHeartbeats 4000000 in
set_option maxRecDepth 100000 in
theorem readDeed_len2 (a0 : ByteArray) (w : World) (hG : Glob w) (hs : a0.size < 4294967281) (k0 : ByteArray) (hk : (wordsOf a0)[0]? = some k0) (hj : kindIdx k0 = 2) (hl : ((wordsOf a0).length : Int) ≠ 4) :
    Calls Tryd.prog 33 #[.string a0] w fun e w' => e = .returned (.tuple #[.agg #[.int .i64 0, .int .i64 0, .int .i64 0, .string ⟨#[]⟩], .bool false]) ∧ Below w.heap.size w w' := by
  have hS := fun w hG => splitRow a0 ⟨#[32]⟩ w hG hs (by decide)
  have hn := splitB_ne a0 ⟨#[32]⟩ (by decide)
  change ∀ w hG, Calls _ _ _ w fun e w' => ∃ g, e = .returned (.slice (some ⟨g, 0, none⟩) (wordsOf a0).length (wordsOf a0).length) ∧ w'.heap[g]? = some (.cells ((wordsOf a0).map Value.string).toArray 9 (0, 0)) ∧ w.heap.size ≤ g ∧ Below w.heap.size w w' at hS
  change 0 < (wordsOf a0).length at hn
  generalize wordsOf a0 = ws at hS hn hk hl
  replace hl : (((ws.length : Nat) : Int) == 4) = false := beq_eq_false_iff_ne.2 hl
  have hI := idxRow k0
  rw [hj] at hI
  have HG := Aside0.mk hG
  clear hG hj hs
  go_enter Tryd.func33, Tryd.ntmps33
  go_wp2_with (first | (go_at_call 48; refine (hI _ _ _ (heap_alloc_old (heap_alloc_new _ _) _) (Nat.le_refl _)).mono ?_; rintro e w2 ⟨rfl, ⟨nd, rfl⟩⟩) | (go_at_call 47; refine (hS _ (HG.out.below ((Below.refl _ _).alloc (Nat.le_refl _) _))).mono ?_; rintro e w1 ⟨g, rfl, hb, hg, hB⟩; have hc00 : w1.cell? ⟨g, 0, none⟩ = some (.string k0) := (blk_cell hb 0).trans (by simp [hk]); have hc0 := fun o1 o2 => cell_alloc (cell_alloc hc00 o1) o2; clear hc00; have hR := (hB.block w.heap.size (by simp)).trans (heap_alloc_new w _); have hR2 := fun o1 o2 => heap_alloc_old (heap_alloc_old hR o1) o2; have r0 := fun o1 o2 => blk_cell (hR2 o1 o2) 0; have r1 := fun o1 o2 => blk_cell (hR2 o1 o2) 1; have r2 := fun o1 o2 => blk_cell (hR2 o1 o2) 2; have r3 := fun o1 o2 => blk_cell (hR2 o1 o2) 3; have f0 := fun o1 o2 => blk_frozen (hR2 o1 o2) 0; have f1 := fun o1 o2 => blk_frozen (hR2 o1 o2) 1; have f2 := fun o1 o2 => blk_frozen (hR2 o1 o2) 2; have f3 := fun o1 o2 => blk_frozen (hR2 o1 o2) 3; dsimp at r0 r1 r2 r3; replace hR2 := Aside0.mk hR2; have hBw := Aside0.mk (((Below.refl w.heap.size w).alloc (Nat.le_refl _) _).trans (hB.mono (by simp))); clear hR hB))
  refine bodyPost_ret (results_ct rfl _ _ w.heap.size 30 #[.int .i64 0, .int .i64 0, .int .i64 0, .string (⟨#[]⟩ : ByteArray)] (0, 0) _ rfl ?hblk Tryd.underlying30 rfl (by kernel_rfl)) rfl ?_
  case hblk =>
    refine blk_put (cs := #[.int .i64 0, .int .i64 0, .int .i64 0, .string (⟨#[]⟩ : ByteArray)]) ?_ 3 _ rfl
    refine blk_put (cs := #[.int .i64 0, .int .i64 0, .int .i64 0, .string (⟨#[]⟩ : ByteArray)]) ?_ 2 _ rfl
    refine blk_put (cs := #[.int .i64 0, .int .i64 0, .int .i64 0, .string (⟨#[]⟩ : ByteArray)]) ?_ 1 _ rfl
    refine blk_put (cs := #[.int .i64 0, .int .i64 0, .int .i64 0, .string (⟨#[]⟩ : ByteArray)]) ?_ 0 _ rfl
    exact blk_drewN (hR2.out _ _) _
  refine ⟨rfl, ?_⟩
  repeat (first | exact hBw.out | apply below_alloc | apply pw_below_drewN | refine below_set ?_ (Nat.le_refl _))

set_option maxHeartbeats 4000000 in
set_option maxRecDepth 100000 in
theorem readDeed_len3 (a0 : ByteArray) (w : World) (hG : Glob w) (hs : a0.size < 4294967281) (k0 : ByteArray) (hk : (wordsOf a0)[0]? = some k0) (hj : kindIdx k0 = 3) (hl : ((wordsOf a0).length : Int) ≠ 3) :
    Calls Tryd.prog 33 #[.string a0] w fun e w' => e = .returned (.tuple #[.agg #[.int .i64 0, .int .i64 0, .int .i64 0, .string ⟨#[]⟩], .bool false]) ∧ Below w.heap.size w w' := by
  have hS := fun w hG => splitRow a0 ⟨#[32]⟩ w hG hs (by decide)
  have hn := splitB_ne a0 ⟨#[32]⟩ (by decide)
  change ∀ w hG, Calls _ _ _ w fun e w' => ∃ g, e = .returned (.slice (some ⟨g, 0, none⟩) (wordsOf a0).length (wordsOf a0).length) ∧ w'.heap[g]? = some (.cells ((wordsOf a0).map Value.string).toArray 9 (0, 0)) ∧ w.heap.size ≤ g ∧ Below w.heap.size w w' at hS
  change 0 < (wordsOf a0).length at hn
  generalize wordsOf a0 = ws at hS hn hk hl
  replace hl : (((ws.length : Nat) : Int) == 3) = false := beq_eq_false_iff_ne.2 hl
  have hI := idxRow k0
  rw [hj] at hI
  have HG := Aside0.mk hG
  clear hG hj hs
  go_enter Tryd.func33, Tryd.ntmps33
  go_wp2_with (first | (go_at_call 48; refine (hI _ _ _ (heap_alloc_old (heap_alloc_new _ _) _) (Nat.le_refl _)).mono ?_; rintro e w2 ⟨rfl, ⟨nd, rfl⟩⟩) | (go_at_call 47; refine (hS _ (HG.out.below ((Below.refl _ _).alloc (Nat.le_refl _) _))).mono ?_; rintro e w1 ⟨g, rfl, hb, hg, hB⟩; have hc00 : w1.cell? ⟨g, 0, none⟩ = some (.string k0) := (blk_cell hb 0).trans (by simp [hk]); have hc0 := fun o1 o2 => cell_alloc (cell_alloc hc00 o1) o2; clear hc00; have hR := (hB.block w.heap.size (by simp)).trans (heap_alloc_new w _); have hR2 := fun o1 o2 => heap_alloc_old (heap_alloc_old hR o1) o2; have r0 := fun o1 o2 => blk_cell (hR2 o1 o2) 0; have r1 := fun o1 o2 => blk_cell (hR2 o1 o2) 1; have r2 := fun o1 o2 => blk_cell (hR2 o1 o2) 2; have r3 := fun o1 o2 => blk_cell (hR2 o1 o2) 3; have f0 := fun o1 o2 => blk_frozen (hR2 o1 o2) 0; have f1 := fun o1 o2 => blk_frozen (hR2 o1 o2) 1; have f2 := fun o1 o2 => blk_frozen (hR2 o1 o2) 2; have f3 := fun o1 o2 => blk_frozen (hR2 o1 o2) 3; dsimp at r0 r1 r2 r3; replace hR2 := Aside0.mk hR2; have hBw := Aside0.mk (((Below.refl w.heap.size w).alloc (Nat.le_refl _) _).trans (hB.mono (by simp))); clear hR hB))
  refine bodyPost_ret (results_ct rfl _ _ w.heap.size 30 #[.int .i64 0, .int .i64 0, .int .i64 0, .string (⟨#[]⟩ : ByteArray)] (0, 0) _ rfl ?hblk Tryd.underlying30 rfl (by kernel_rfl)) rfl ?_
  case hblk =>
    refine blk_put (cs := #[.int .i64 0, .int .i64 0, .int .i64 0, .string (⟨#[]⟩ : ByteArray)]) ?_ 3 _ rfl
    refine blk_put (cs := #[.int .i64 0, .int .i64 0, .int .i64 0, .string (⟨#[]⟩ : ByteArray)]) ?_ 2 _ rfl
    refine blk_put (cs := #[.int .i64 0, .int .i64 0, .int .i64 0, .string (⟨#[]⟩ : ByteArray)]) ?_ 1 _ rfl
    refine blk_put (cs := #[.int .i64 0, .int .i64 0, .int .i64 0, .string (⟨#[]⟩ : ByteArray)]) ?_ 0 _ rfl
    exact blk_drewN (hR2.out _ _) _
  refine ⟨rfl, ?_⟩
  repeat (first | exact hBw.out | apply below_alloc | apply pw_below_drewN | refine below_set ?_ (Nat.le_refl _))

set_option maxHeartbeats 4000000 in
set_option maxRecDepth 100000 in
theorem readDeed_len4 (a0 : ByteArray) (w : World) (hG : Glob w) (hs : a0.size < 4294967281) (k0 : ByteArray) (hk : (wordsOf a0)[0]? = some k0) (hj : kindIdx k0 = 4) (hl : ((wordsOf a0).length : Int) ≠ 1) :
    Calls Tryd.prog 33 #[.string a0] w fun e w' => e = .returned (.tuple #[.agg #[.int .i64 0, .int .i64 0, .int .i64 0, .string ⟨#[]⟩], .bool false]) ∧ Below w.heap.size w w' := by
  have hS := fun w hG => splitRow a0 ⟨#[32]⟩ w hG hs (by decide)
  have hn := splitB_ne a0 ⟨#[32]⟩ (by decide)
  change ∀ w hG, Calls _ _ _ w fun e w' => ∃ g, e = .returned (.slice (some ⟨g, 0, none⟩) (wordsOf a0).length (wordsOf a0).length) ∧ w'.heap[g]? = some (.cells ((wordsOf a0).map Value.string).toArray 9 (0, 0)) ∧ w.heap.size ≤ g ∧ Below w.heap.size w w' at hS
  change 0 < (wordsOf a0).length at hn
  generalize wordsOf a0 = ws at hS hn hk hl
  replace hl : (((ws.length : Nat) : Int) == 1) = false := beq_eq_false_iff_ne.2 hl
  have hI := idxRow k0
  rw [hj] at hI
  have HG := Aside0.mk hG
  clear hG hj hs
  go_enter Tryd.func33, Tryd.ntmps33
  go_wp2_with (first | (go_at_call 48; refine (hI _ _ _ (heap_alloc_old (heap_alloc_new _ _) _) (Nat.le_refl _)).mono ?_; rintro e w2 ⟨rfl, ⟨nd, rfl⟩⟩) | (go_at_call 47; refine (hS _ (HG.out.below ((Below.refl _ _).alloc (Nat.le_refl _) _))).mono ?_; rintro e w1 ⟨g, rfl, hb, hg, hB⟩; have hc00 : w1.cell? ⟨g, 0, none⟩ = some (.string k0) := (blk_cell hb 0).trans (by simp [hk]); have hc0 := fun o1 o2 => cell_alloc (cell_alloc hc00 o1) o2; clear hc00; have hR := (hB.block w.heap.size (by simp)).trans (heap_alloc_new w _); have hR2 := fun o1 o2 => heap_alloc_old (heap_alloc_old hR o1) o2; have r0 := fun o1 o2 => blk_cell (hR2 o1 o2) 0; have r1 := fun o1 o2 => blk_cell (hR2 o1 o2) 1; have r2 := fun o1 o2 => blk_cell (hR2 o1 o2) 2; have r3 := fun o1 o2 => blk_cell (hR2 o1 o2) 3; have f0 := fun o1 o2 => blk_frozen (hR2 o1 o2) 0; have f1 := fun o1 o2 => blk_frozen (hR2 o1 o2) 1; have f2 := fun o1 o2 => blk_frozen (hR2 o1 o2) 2; have f3 := fun o1 o2 => blk_frozen (hR2 o1 o2) 3; dsimp at r0 r1 r2 r3; replace hR2 := Aside0.mk hR2; have hBw := Aside0.mk (((Below.refl w.heap.size w).alloc (Nat.le_refl _) _).trans (hB.mono (by simp))); clear hR hB))
  refine bodyPost_ret (results_ct rfl _ _ w.heap.size 30 #[.int .i64 0, .int .i64 0, .int .i64 0, .string (⟨#[]⟩ : ByteArray)] (0, 0) _ rfl ?hblk Tryd.underlying30 rfl (by kernel_rfl)) rfl ?_
  case hblk =>
    refine blk_put (cs := #[.int .i64 0, .int .i64 0, .int .i64 0, .string (⟨#[]⟩ : ByteArray)]) ?_ 3 _ rfl
    refine blk_put (cs := #[.int .i64 0, .int .i64 0, .int .i64 0, .string (⟨#[]⟩ : ByteArray)]) ?_ 2 _ rfl
    refine blk_put (cs := #[.int .i64 0, .int .i64 0, .int .i64 0, .string (⟨#[]⟩ : ByteArray)]) ?_ 1 _ rfl
    refine blk_put (cs := #[.int .i64 0, .int .i64 0, .int .i64 0, .string (⟨#[]⟩ : ByteArray)]) ?_ 0 _ rfl
    exact blk_drewN (hR2.out _ _) _
  refine ⟨rfl, ?_⟩
  repeat (first | exact hBw.out | apply below_alloc | apply pw_below_drewN | refine below_set ?_ (Nat.le_refl _))
end Go.Proofs.YtnkfbappnpnaoaaDoor.Q
