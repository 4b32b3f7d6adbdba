/- A part of this claim's proof: functions of the program as plain functions, with the proof that the code comes to their answers, and facts about them. Condition: none of its own. -/
import Derived.Deep.LoopGhost
import Derived.Outline
import Derived.Test.YtnkfbappnpnaoaaDoorCJx1
import Derived.Test.YtnkfbappnpnaoaaDoorCJx3
import Derived.Test.YtnkfbappnpnaoaaDoorCJz
namespace Go.Proofs.YtnkfbappnpnaoaaDoor.Q
open Go.RowKit Go.Proofs.YtnkfbappnpnaoaaDoorW.PrintWords Go.Proofs.YtnkfbappnpnaoaaDoorW.PrintLast Go.Proofs.YtnkfbappnpnaoaaDoorW.PrintMore
attribute [local go_sem] max2_int min2_int max_two min_two max_three min_three max_four min_four   -- for this text's walks alone
set_option linter.unusedVariables false
set_option linter.unusedSimpArgs false
theorem alloc_new_at {w : World} {o : Obj} {g : Nat} (h : w.heap.size = g) : (w.alloc o).heap[g]? = some o := h ▸ heap_alloc_new w o
theorem rounds_at {P : Program} {Q : Exit → Act → World → Prop} {a : Act} {c : Code} {n : Nat} {w0 : World} (I : World → Prop) (h : I w0) (k : ∀ w, I w → Code.rounds P c Q n a w) : Code.rounds P c Q n a w0 := k _ h
theorem kb {w5 w6 : World} {g : Nat} {o : Obj} (hB : Below w5.heap.size w5 w6) (h : w5.heap[g]? = some o) : w6.heap[g]? = some o := (hB.block g (Array.getElem?_eq_some_iff.1 h).1).trans h
theorem frz4 {w : World} {g t : Nat} {cs : Array Value} (h : w.heap[g]? = some (.cells cs t (0, 0))) : w.frozen? ⟨g, 0, none⟩ = false ∧ w.frozen? ⟨g, 1, none⟩ = false ∧ w.frozen? ⟨g, 2, none⟩ = false ∧ w.frozen? ⟨g, 3, none⟩ = false := ⟨blk_frozen h 0, blk_frozen h 1, blk_frozen h 2, blk_frozen h 3⟩
theorem cells4 {w : World} {g t : Nat} {a b c d : Value} (h : w.heap[g]? = some (.cells #[a, b, c, d] t (0, 0))) : w.cell? ⟨g, 0, none⟩ = some a ∧ w.cell? ⟨g, 1, none⟩ = some b ∧ w.cell? ⟨g, 2, none⟩ = some c ∧ w.cell? ⟨g, 3, none⟩ = some d := ⟨blk_cell h 0, blk_cell h 1, blk_cell h 2, blk_cell h 3⟩
theorem put4 {w : World} {g t : Nat} {a b c d x y z u : Value} (h : w.heap[g]? = some (.cells #[x, y, z, u] t (0, 0))) : ((((w.setCell ⟨g, 0, none⟩ a).setCell ⟨g, 1, none⟩ b).setCell ⟨g, 2, none⟩ c).setCell ⟨g, 3, none⟩ d).heap[g]? = some (.cells #[a, b, c, d] t (0, 0)) :=
  blk_put (cs := #[a, b, c, u]) (blk_put (cs := #[a, b, z, u]) (blk_put (cs := #[a, y, z, u]) (blk_put (cs := #[x, y, z, u]) h 0 _ rfl) 1 _ rfl) 2 _ rfl) 3 _ rfl
theorem ca2 {w : World} {p : Addr} {v : Value} (h : w.cell? p = some v) (o1 o2 : Obj) : ((w.alloc o1).alloc o2).cell? p = some v := cell_alloc (cell_alloc h o1) o2
theorem splitWords {a0 : ByteArray} {ws : List ByteArray} (hs : a0.size < 4294967281) (hk : wordsOf a0 = ws) (w : World) (hG : Glob w) : Calls Tryd.prog 47 #[.string a0, .string ⟨#[32]⟩] w fun e w' => ∃ g, e = .returned (.slice (some ⟨g, 0, none⟩) ws.length ws.length) ∧ w'.heap[g]? = some (.cells (ws.map Value.string).toArray 9 (0, 0)) ∧ w.heap.size ≤ g ∧ Below w.heap.size w w' := hk ▸ splitRow a0 ⟨#[32]⟩ w hG hs (by decide)
theorem wp_at {P : Program} {Q : Exit → Act → World → Prop} {a : Act} {c : Code} {w0 : World} (I : World → Prop) (h : I w0) (k : ∀ w, I w → c.wp P Q a w) : c.wp P Q a w0 := k _ h
set_option maxHeartbeats 8000000 in
set_option maxRecDepth 100000 in
theorem readDeed_body_0 (a0 : ByteArray) (w : World) (hG : Glob w) (hs : a0.size < 4294967281) (k0 x1 : ByteArray) (hk : wordsOf a0 = [k0, x1]) (hj : kindIdx k0 = 0) (n0 : Int) (hn0 : impl_readNumber.f x1 = some (n0, false)) :
    Calls Tryd.prog 33 #[.string a0] w fun e w' => e = .returned (.tuple #[.agg #[.int .i64 0, .int .i64 0, .int .i64 0, .string (⟨#[]⟩ : ByteArray)], .bool false]) ∧ Below w.heap.size w w' := by
  have hS := splitWords hs hk
  simp only [List.length_cons, List.length_nil, Nat.zero_add, Nat.reduceAdd, List.map_cons, List.map_nil] at hS
  have hI := idxRow k0
  rw [hj] at hI
  have HG := Aside0.mk hG
  replace hn0 := Aside0.mk hn0
  clear hG hj hs hk
  go_enter Tryd.func33, Tryd.ntmps33
  go_wp2_with (first | (go_at_call 48; refine (hI _ _ _ (heap_alloc_old (heap_alloc_new _ _) _) (Nat.le_refl _)).mono ?_; rintro e w2 ⟨rfl, ⟨nd, rfl⟩⟩) | (go_at_call 47; refine (hS _ (HG.out.below ((Below.refl _ _).alloc (Nat.le_refl _) _))).mono ?_; rintro e w1 ⟨g, rfl, hb, hg, hB⟩; have hc0 := ca2 ((blk_cell hb 0).trans rfl); have hc1 := ca2 ((blk_cell hb 1).trans rfl); have hR := (hB.block w.heap.size (by simp)).trans (heap_alloc_new w _); have hR2 := Aside0.mk (fun o1 o2 => heap_alloc_old (heap_alloc_old hR o1) o2); have hsz := hB.size; replace hb := Aside0.mk hb; have hBw := Aside0.mk (((Below.refl w.heap.size w).alloc (Nat.le_refl _) _).trans (hB.mono (by simp))); replace hg := Aside0.mk hg; replace hsz := Aside0.mk hsz; clear hR hB))
  clear hc0 hc1 hI hS
  have hgg := (Array.getElem?_eq_some_iff.1 hb.out).1
  obtain ⟨ga, hga⟩ : ∃ ga, w1.heap.size + 1 + 1 = ga := ⟨_, rfl⟩
  rw [hga]
  have hga1 : w.heap.size ≤ ga := by have := hsz.out; simp at this; omega
  have hga2 : ga ≠ g := by omega
  have hga3 : ga ≠ w.heap.size := by have := hsz.out; simp at this; omega
  refine wp_at (fun w5 => w5.heap[w.heap.size]? = some (.cells #[.int .i64 0, .int .i64 0, .int .i64 0, .string (⟨#[]⟩ : ByteArray)] 30 (0, 0)) ∧ w5.heap[ga]? = some (.cells #[.int .i64 0, .int .i64 0, .int .i64 0, .string (⟨#[]⟩ : ByteArray)] 30 (0, 0)) ∧ w5.heap[g]? = some (.cells #[.string k0, .string x1] 9 (0, 0)) ∧ Below w.heap.size w w5) ⟨?_, ?_, ?_, ?_⟩ ?_
  · exact heap_alloc_old (blk_drewN (hR2.out _ _) _) _
  · exact alloc_new_at (by simp [hga])
  · exact heap_alloc_old (blk_drewN (heap_alloc_old (heap_alloc_old hb.out _) _) _) _
  · repeat (first | exact hBw.out | apply below_alloc | apply pw_below_drewN)
  clear hga hgg hb hR2 hBw hsz hg
  rintro w5 ⟨hr, ha, hw, hb⟩
  refine wp_loop_rounds 1 ?_
  have hc := blk_cell hw 1
  replace hc := hc.trans rfl
  rw [rounds_succ]
  go_wp2_with (go_at_call 49; refine (impl_readNumber.calls _ _ _ _ (HG.out.below hb) hn0.out).mono ?_; rintro e w6 ⟨rfl, hB⟩; have ra := ((blk_cell (kb hB ha) 1)).trans rfl; have fa := blk_frozen (kb hB ha) 1; replace hr := kb hB hr; obtain ⟨f0, f1, f2, f3⟩ := frz4 hr; obtain ⟨r0, r1, r2, r3⟩ := cells4 hr)
  refine bodyPost_ret (results_ct rfl _ _ w.heap.size 30 #[.int .i64 0, .int .i64 0, .int .i64 0, .string (⟨#[]⟩ : ByteArray)] (0, 0) _ rfl ?hblk Tryd.underlying30 rfl (by kernel_rfl)) rfl ?_
  case hblk =>
    exact put4 hr
  refine ⟨rfl, ?_⟩
  replace hb := hb.trans (hB.mono hb.size)
  repeat (first | exact hb | refine below_set ?_ (Nat.le_refl _))
set_option maxHeartbeats 8000000 in
set_option maxRecDepth 100000 in
theorem readDeed_body_eq (a0 : ByteArray) (w : World) (hG : Glob w) (hs : a0.size < 4294967281) (k0 x1 : ByteArray) (hk : wordsOf a0 = [k0, x1]) (hj : kindIdx k0 = 0) (n0 : Int) (hn0 : impl_readNumber.f x1 = some (n0, true)) (t : ByteArray) (ht : impl_deedTextM.f 0 n0 0 (⟨#[]⟩ : ByteArray) = some t) (he : (t.toList == a0.toList) = true) :
    Calls Tryd.prog 33 #[.string a0] w fun e w' => e = .returned (.tuple #[.agg #[.int .i64 0, .int .i64 n0, .int .i64 0, .string (⟨#[]⟩ : ByteArray)], .bool true]) ∧ Below w.heap.size w w' := by
  have hS := splitWords hs hk
  simp only [List.length_cons, List.length_nil, Nat.zero_add, Nat.reduceAdd, List.map_cons, List.map_nil] at hS
  have hI := idxRow k0
  rw [hj] at hI
  have HG := Aside0.mk hG
  replace hn0 := Aside0.mk hn0
  replace ht := Aside0.mk ht
  clear hG hj hs hk
  go_enter Tryd.func33, Tryd.ntmps33
  go_wp2_with (first | (go_at_call 48; refine (hI _ _ _ (heap_alloc_old (heap_alloc_new _ _) _) (Nat.le_refl _)).mono ?_; rintro e w2 ⟨rfl, ⟨nd, rfl⟩⟩) | (go_at_call 47; refine (hS _ (HG.out.below ((Below.refl _ _).alloc (Nat.le_refl _) _))).mono ?_; rintro e w1 ⟨g, rfl, hb, hg, hB⟩; have hc0 := ca2 ((blk_cell hb 0).trans rfl); have hc1 := ca2 ((blk_cell hb 1).trans rfl); have hR := (hB.block w.heap.size (by simp)).trans (heap_alloc_new w _); have hR2 := Aside0.mk (fun o1 o2 => heap_alloc_old (heap_alloc_old hR o1) o2); have hsz := hB.size; replace hb := Aside0.mk hb; have hBw := Aside0.mk (((Below.refl w.heap.size w).alloc (Nat.le_refl _) _).trans (hB.mono (by simp))); replace hg := Aside0.mk hg; replace hsz := Aside0.mk hsz; clear hR hB))
  clear hc0 hc1 hI hS
  have hgg := (Array.getElem?_eq_some_iff.1 hb.out).1
  obtain ⟨ga, hga⟩ : ∃ ga, w1.heap.size + 1 + 1 = ga := ⟨_, rfl⟩
  rw [hga]
  have hga1 : w.heap.size ≤ ga := by have := hsz.out; simp at this; omega
  have hga2 : ga ≠ g := by omega
  have hga3 : ga ≠ w.heap.size := by have := hsz.out; simp at this; omega
  refine wp_at (fun w5 => w5.heap[w.heap.size]? = some (.cells #[.int .i64 0, .int .i64 0, .int .i64 0, .string (⟨#[]⟩ : ByteArray)] 30 (0, 0)) ∧ w5.heap[ga]? = some (.cells #[.int .i64 0, .int .i64 0, .int .i64 0, .string (⟨#[]⟩ : ByteArray)] 30 (0, 0)) ∧ w5.heap[g]? = some (.cells #[.string k0, .string x1] 9 (0, 0)) ∧ Below w.heap.size w w5) ⟨?_, ?_, ?_, ?_⟩ ?_
  · exact heap_alloc_old (blk_drewN (hR2.out _ _) _) _
  · exact alloc_new_at (by simp [hga])
  · exact heap_alloc_old (blk_drewN (heap_alloc_old (heap_alloc_old hb.out _) _) _) _
  · repeat (first | exact hBw.out | apply below_alloc | apply pw_below_drewN)
  clear hga hgg hb hR2 hBw hsz hg
  rintro w5 ⟨hr, ha, hw, hb⟩
  refine wp_loop_rounds 2 ?_
  have hc := blk_cell hw 1
  replace hc := hc.trans rfl
  rw [rounds_succ]
  go_wp2_with (go_at_call 49; refine (impl_readNumber.calls _ _ _ _ (HG.out.below hb) hn0.out).mono ?_; rintro e w6 ⟨rfl, hB⟩; have ra := ((blk_cell (kb hB ha) 1)).trans rfl; have fa := blk_frozen (kb hB ha) 1; replace hr := kb hB hr; obtain ⟨f0, f1, f2, f3⟩ := frz4 hr; obtain ⟨r0, r1, r2, r3⟩ := cells4 hr)
  refine rounds_at (fun w5 => w5.heap[w.heap.size]? = some (.cells #[.int .i64 0, .int .i64 0, .int .i64 0, .string (⟨#[]⟩ : ByteArray)] 30 (0, 0)) ∧ w5.heap[ga]? = some (.cells #[.int .i64 0, .int .i64 n0, .int .i64 0, .string (⟨#[]⟩ : ByteArray)] 30 (0, 0)) ∧ w5.heap[g]? = some (.cells #[.string k0, .string x1] 9 (0, 0)) ∧ Below w.heap.size w w5) ⟨?_, ?_, ?_, ?_⟩ ?_
  · exact blk_far hr (fun h => hga3 h.symm) _
  · exact blk_put (kb hB ha) 1 _ rfl
  · exact blk_far (kb hB hw) (fun h => hga2 h.symm) _
  · exact (hb.trans (hB.mono hb.size)).setCell hga1 _
  clear ra fa f0 f1 f2 f3 r0 r1 r2 r3 hc hB hr ha hw hb
  rintro w5 ⟨hr, ha, hw, hb⟩
  obtain ⟨q0, q1, q2, q3⟩ := cells4 ha
  rw [rounds_succ]
  go_wp2_with (go_at_call 29; refine (impl_deedTextM.calls _ _ _ _ _ _ ht.out).mono ?_; rintro e w6 ⟨rfl, hB⟩; obtain ⟨b0, b1, b2, b3⟩ := cells4 (kb hB ha); replace hr := kb hB hr; obtain ⟨f0, f1, f2, f3⟩ := frz4 hr; obtain ⟨r0, r1, r2, r3⟩ := cells4 hr)
  refine bodyPost_ret (results_ct rfl _ _ w.heap.size 30 #[.int .i64 0, .int .i64 n0, .int .i64 0, .string (⟨#[]⟩ : ByteArray)] (0, 0) _ rfl ?hblk Tryd.underlying30 rfl (by kernel_rfl)) rfl ?_
  case hblk =>
    exact put4 hr
  refine ⟨rfl, ?_⟩
  replace hb := hb.trans (hB.mono hb.size)
  repeat (first | exact hb | refine below_set ?_ (Nat.le_refl _))
set_option maxHeartbeats 8000000 in
set_option maxRecDepth 100000 in
theorem readDeed_body_ne (a0 : ByteArray) (w : World) (hG : Glob w) (hs : a0.size < 4294967281) (k0 x1 : ByteArray) (hk : wordsOf a0 = [k0, x1]) (hj : kindIdx k0 = 0) (n0 : Int) (hn0 : impl_readNumber.f x1 = some (n0, true)) (t : ByteArray) (ht : impl_deedTextM.f 0 n0 0 (⟨#[]⟩ : ByteArray) = some t) (he : (t.toList == a0.toList) = false) :
    Calls Tryd.prog 33 #[.string a0] w fun e w' => e = .returned (.tuple #[.agg #[.int .i64 0, .int .i64 0, .int .i64 0, .string (⟨#[]⟩ : ByteArray)], .bool false]) ∧ Below w.heap.size w w' := by
  have hS := splitWords hs hk
  simp only [List.length_cons, List.length_nil, Nat.zero_add, Nat.reduceAdd, List.map_cons, List.map_nil] at hS
  have hI := idxRow k0
  rw [hj] at hI
  have HG := Aside0.mk hG
  replace hn0 := Aside0.mk hn0
  replace ht := Aside0.mk ht
  clear hG hj hs hk
  go_enter Tryd.func33, Tryd.ntmps33
  go_wp2_with (first | (go_at_call 48; refine (hI _ _ _ (heap_alloc_old (heap_alloc_new _ _) _) (Nat.le_refl _)).mono ?_; rintro e w2 ⟨rfl, ⟨nd, rfl⟩⟩) | (go_at_call 47; refine (hS _ (HG.out.below ((Below.refl _ _).alloc (Nat.le_refl _) _))).mono ?_; rintro e w1 ⟨g, rfl, hb, hg, hB⟩; have hc0 := ca2 ((blk_cell hb 0).trans rfl); have hc1 := ca2 ((blk_cell hb 1).trans rfl); have hR := (hB.block w.heap.size (by simp)).trans (heap_alloc_new w _); have hR2 := Aside0.mk (fun o1 o2 => heap_alloc_old (heap_alloc_old hR o1) o2); have hsz := hB.size; replace hb := Aside0.mk hb; have hBw := Aside0.mk (((Below.refl w.heap.size w).alloc (Nat.le_refl _) _).trans (hB.mono (by simp))); replace hg := Aside0.mk hg; replace hsz := Aside0.mk hsz; clear hR hB))
  clear hc0 hc1 hI hS
  have hgg := (Array.getElem?_eq_some_iff.1 hb.out).1
  obtain ⟨ga, hga⟩ : ∃ ga, w1.heap.size + 1 + 1 = ga := ⟨_, rfl⟩
  rw [hga]
  have hga1 : w.heap.size ≤ ga := by have := hsz.out; simp at this; omega
  have hga2 : ga ≠ g := by omega
  have hga3 : ga ≠ w.heap.size := by have := hsz.out; simp at this; omega
  refine wp_at (fun w5 => w5.heap[w.heap.size]? = some (.cells #[.int .i64 0, .int .i64 0, .int .i64 0, .string (⟨#[]⟩ : ByteArray)] 30 (0, 0)) ∧ w5.heap[ga]? = some (.cells #[.int .i64 0, .int .i64 0, .int .i64 0, .string (⟨#[]⟩ : ByteArray)] 30 (0, 0)) ∧ w5.heap[g]? = some (.cells #[.string k0, .string x1] 9 (0, 0)) ∧ Below w.heap.size w w5) ⟨?_, ?_, ?_, ?_⟩ ?_
  · exact heap_alloc_old (blk_drewN (hR2.out _ _) _) _
  · exact alloc_new_at (by simp [hga])
  · exact heap_alloc_old (blk_drewN (heap_alloc_old (heap_alloc_old hb.out _) _) _) _
  · repeat (first | exact hBw.out | apply below_alloc | apply pw_below_drewN)
  clear hga hgg hb hR2 hBw hsz hg
  rintro w5 ⟨hr, ha, hw, hb⟩
  refine wp_loop_rounds 2 ?_
  have hc := blk_cell hw 1
  replace hc := hc.trans rfl
  rw [rounds_succ]
  go_wp2_with (go_at_call 49; refine (impl_readNumber.calls _ _ _ _ (HG.out.below hb) hn0.out).mono ?_; rintro e w6 ⟨rfl, hB⟩; have ra := ((blk_cell (kb hB ha) 1)).trans rfl; have fa := blk_frozen (kb hB ha) 1; replace hr := kb hB hr; obtain ⟨f0, f1, f2, f3⟩ := frz4 hr; obtain ⟨r0, r1, r2, r3⟩ := cells4 hr)
  refine rounds_at (fun w5 => w5.heap[w.heap.size]? = some (.cells #[.int .i64 0, .int .i64 0, .int .i64 0, .string (⟨#[]⟩ : ByteArray)] 30 (0, 0)) ∧ w5.heap[ga]? = some (.cells #[.int .i64 0, .int .i64 n0, .int .i64 0, .string (⟨#[]⟩ : ByteArray)] 30 (0, 0)) ∧ w5.heap[g]? = some (.cells #[.string k0, .string x1] 9 (0, 0)) ∧ Below w.heap.size w w5) ⟨?_, ?_, ?_, ?_⟩ ?_
  · exact blk_far hr (fun h => hga3 h.symm) _
  · exact blk_put (kb hB ha) 1 _ rfl
  · exact blk_far (kb hB hw) (fun h => hga2 h.symm) _
  · exact (hb.trans (hB.mono hb.size)).setCell hga1 _
  clear ra fa f0 f1 f2 f3 r0 r1 r2 r3 hc hB hr ha hw hb
  rintro w5 ⟨hr, ha, hw, hb⟩
  obtain ⟨q0, q1, q2, q3⟩ := cells4 ha
  rw [rounds_succ]
  go_wp2_with (go_at_call 29; refine (impl_deedTextM.calls _ _ _ _ _ _ ht.out).mono ?_; rintro e w6 ⟨rfl, hB⟩; obtain ⟨b0, b1, b2, b3⟩ := cells4 (kb hB ha); replace hr := kb hB hr; obtain ⟨f0, f1, f2, f3⟩ := frz4 hr; obtain ⟨r0, r1, r2, r3⟩ := cells4 hr)
  refine bodyPost_ret (results_ct rfl _ _ w.heap.size 30 #[.int .i64 0, .int .i64 0, .int .i64 0, .string (⟨#[]⟩ : ByteArray)] (0, 0) _ rfl ?hblk Tryd.underlying30 rfl (by kernel_rfl)) rfl ?_
  case hblk =>
    exact put4 hr
  refine ⟨rfl, ?_⟩
  replace hb := hb.trans (hB.mono hb.size)
  repeat (first | exact hb | refine below_set ?_ (Nat.le_refl _))
set_option maxHeartbeats 8000000 in
set_option maxRecDepth 100000 in
theorem readDeed_drop_0 (a0 : ByteArray) (w : World) (hG : Glob w) (hs : a0.size < 4294967281) (k0 x1 x2 : ByteArray) (hk : wordsOf a0 = [k0, x1, x2]) (hj : kindIdx k0 = 3) (n0 : Int) (hn0 : impl_readNumber.f x1 = some (n0, false)) :
    Calls Tryd.prog 33 #[.string a0] w fun e w' => e = .returned (.tuple #[.agg #[.int .i64 0, .int .i64 0, .int .i64 0, .string (⟨#[]⟩ : ByteArray)], .bool false]) ∧ Below w.heap.size w w' := by
  have hS := splitWords hs hk
  simp only [List.length_cons, List.length_nil, Nat.zero_add, Nat.reduceAdd, List.map_cons, List.map_nil] at hS
  have hI := idxRow k0
  rw [hj] at hI
  have HG := Aside0.mk hG
  replace hn0 := Aside0.mk hn0
  clear hG hj hs hk
  go_enter Tryd.func33, Tryd.ntmps33
  go_wp2_with (first | (go_at_call 48; refine (hI _ _ _ (heap_alloc_old (heap_alloc_new _ _) _) (Nat.le_refl _)).mono ?_; rintro e w2 ⟨rfl, ⟨nd, rfl⟩⟩) | (go_at_call 47; refine (hS _ (HG.out.below ((Below.refl _ _).alloc (Nat.le_refl _) _))).mono ?_; rintro e w1 ⟨g, rfl, hb, hg, hB⟩; have hc0 := ca2 ((blk_cell hb 0).trans rfl); have hc1 := ca2 ((blk_cell hb 1).trans rfl); have hc2 := ca2 ((blk_cell hb 2).trans rfl); have hR := (hB.block w.heap.size (by simp)).trans (heap_alloc_new w _); have hR2 := Aside0.mk (fun o1 o2 => heap_alloc_old (heap_alloc_old hR o1) o2); have hsz := hB.size; replace hb := Aside0.mk hb; have hBw := Aside0.mk (((Below.refl w.heap.size w).alloc (Nat.le_refl _) _).trans (hB.mono (by simp))); replace hg := Aside0.mk hg; replace hsz := Aside0.mk hsz; clear hR hB))
  clear hc0 hc1 hc2 hI hS
  have hgg := (Array.getElem?_eq_some_iff.1 hb.out).1
  obtain ⟨ga, hga⟩ : ∃ ga, w1.heap.size + 1 + 1 = ga := ⟨_, rfl⟩
  rw [hga]
  have hga1 : w.heap.size ≤ ga := by have := hsz.out; simp at this; omega
  have hga2 : ga ≠ g := by omega
  have hga3 : ga ≠ w.heap.size := by have := hsz.out; simp at this; omega
  refine wp_at (fun w5 => w5.heap[w.heap.size]? = some (.cells #[.int .i64 0, .int .i64 0, .int .i64 0, .string (⟨#[]⟩ : ByteArray)] 30 (0, 0)) ∧ w5.heap[ga]? = some (.cells #[.int .i64 3, .int .i64 0, .int .i64 0, .string (⟨#[]⟩ : ByteArray)] 30 (0, 0)) ∧ w5.heap[g]? = some (.cells #[.string k0, .string x1, .string x2] 9 (0, 0)) ∧ Below w.heap.size w w5) ⟨?_, ?_, ?_, ?_⟩ ?_
  · exact heap_alloc_old (blk_drewN (hR2.out _ _) _) _
  · exact alloc_new_at (by simp [hga])
  · exact heap_alloc_old (blk_drewN (heap_alloc_old (heap_alloc_old hb.out _) _) _) _
  · repeat (first | exact hBw.out | apply below_alloc | apply pw_below_drewN)
  clear hga hgg hb hR2 hBw hsz hg
  rintro w5 ⟨hr, ha, hw, hb⟩
  refine wp_loop_rounds 1 ?_
  have hc := blk_cell hw 1
  replace hc := hc.trans rfl
  rw [rounds_succ]
  go_wp2_with (go_at_call 49; refine (impl_readNumber.calls _ _ _ _ (HG.out.below hb) hn0.out).mono ?_; rintro e w6 ⟨rfl, hB⟩; have ra := ((blk_cell (kb hB ha) 1)).trans rfl; have fa := blk_frozen (kb hB ha) 1; replace hr := kb hB hr; obtain ⟨f0, f1, f2, f3⟩ := frz4 hr; obtain ⟨r0, r1, r2, r3⟩ := cells4 hr)
  refine bodyPost_ret (results_ct rfl _ _ w.heap.size 30 #[.int .i64 0, .int .i64 0, .int .i64 0, .string (⟨#[]⟩ : ByteArray)] (0, 0) _ rfl ?hblk Tryd.underlying30 rfl (by kernel_rfl)) rfl ?_
  case hblk =>
    exact put4 hr
  refine ⟨rfl, ?_⟩
  replace hb := hb.trans (hB.mono hb.size)
  repeat (first | exact hb | refine below_set ?_ (Nat.le_refl _))
set_option maxHeartbeats 8000000 in
set_option maxRecDepth 100000 in
theorem readDeed_drop_1 (a0 : ByteArray) (w : World) (hG : Glob w) (hs : a0.size < 4294967281) (k0 x1 x2 : ByteArray) (hk : wordsOf a0 = [k0, x1, x2]) (hj : kindIdx k0 = 3) (n0 n1 : Int) (hn0 : impl_readNumber.f x1 = some (n0, true)) (hn1 : impl_readNumber.f x2 = some (n1, false)) :
    Calls Tryd.prog 33 #[.string a0] w fun e w' => e = .returned (.tuple #[.agg #[.int .i64 0, .int .i64 0, .int .i64 0, .string (⟨#[]⟩ : ByteArray)], .bool false]) ∧ Below w.heap.size w w' := by
  have hS := splitWords hs hk
  simp only [List.length_cons, List.length_nil, Nat.zero_add, Nat.reduceAdd, List.map_cons, List.map_nil] at hS
  have hI := idxRow k0
  rw [hj] at hI
  have HG := Aside0.mk hG
  replace hn0 := Aside0.mk hn0
  replace hn1 := Aside0.mk hn1
  clear hG hj hs hk
  go_enter Tryd.func33, Tryd.ntmps33
  go_wp2_with (first | (go_at_call 48; refine (hI _ _ _ (heap_alloc_old (heap_alloc_new _ _) _) (Nat.le_refl _)).mono ?_; rintro e w2 ⟨rfl, ⟨nd, rfl⟩⟩) | (go_at_call 47; refine (hS _ (HG.out.below ((Below.refl _ _).alloc (Nat.le_refl _) _))).mono ?_; rintro e w1 ⟨g, rfl, hb, hg, hB⟩; have hc0 := ca2 ((blk_cell hb 0).trans rfl); have hc1 := ca2 ((blk_cell hb 1).trans rfl); have hc2 := ca2 ((blk_cell hb 2).trans rfl); have hR := (hB.block w.heap.size (by simp)).trans (heap_alloc_new w _); have hR2 := Aside0.mk (fun o1 o2 => heap_alloc_old (heap_alloc_old hR o1) o2); have hsz := hB.size; replace hb := Aside0.mk hb; have hBw := Aside0.mk (((Below.refl w.heap.size w).alloc (Nat.le_refl _) _).trans (hB.mono (by simp))); replace hg := Aside0.mk hg; replace hsz := Aside0.mk hsz; clear hR hB))
  clear hc0 hc1 hc2 hI hS
  have hgg := (Array.getElem?_eq_some_iff.1 hb.out).1
  obtain ⟨ga, hga⟩ : ∃ ga, w1.heap.size + 1 + 1 = ga := ⟨_, rfl⟩
  rw [hga]
  have hga1 : w.heap.size ≤ ga := by have := hsz.out; simp at this; omega
  have hga2 : ga ≠ g := by omega
  have hga3 : ga ≠ w.heap.size := by have := hsz.out; simp at this; omega
  refine wp_at (fun w5 => w5.heap[w.heap.size]? = some (.cells #[.int .i64 0, .int .i64 0, .int .i64 0, .string (⟨#[]⟩ : ByteArray)] 30 (0, 0)) ∧ w5.heap[ga]? = some (.cells #[.int .i64 3, .int .i64 0, .int .i64 0, .string (⟨#[]⟩ : ByteArray)] 30 (0, 0)) ∧ w5.heap[g]? = some (.cells #[.string k0, .string x1, .string x2] 9 (0, 0)) ∧ Below w.heap.size w w5) ⟨?_, ?_, ?_, ?_⟩ ?_
  · exact heap_alloc_old (blk_drewN (hR2.out _ _) _) _
  · exact alloc_new_at (by simp [hga])
  · exact heap_alloc_old (blk_drewN (heap_alloc_old (heap_alloc_old hb.out _) _) _) _
  · repeat (first | exact hBw.out | apply below_alloc | apply pw_below_drewN)
  clear hga hgg hb hR2 hBw hsz hg
  rintro w5 ⟨hr, ha, hw, hb⟩
  refine wp_loop_rounds 2 ?_
  have hc := blk_cell hw 1
  replace hc := hc.trans rfl
  rw [rounds_succ]
  go_wp2_with (go_at_call 49; refine (impl_readNumber.calls _ _ _ _ (HG.out.below hb) hn0.out).mono ?_; rintro e w6 ⟨rfl, hB⟩; have ra := ((blk_cell (kb hB ha) 1)).trans rfl; have fa := blk_frozen (kb hB ha) 1; replace hr := kb hB hr; obtain ⟨f0, f1, f2, f3⟩ := frz4 hr; obtain ⟨r0, r1, r2, r3⟩ := cells4 hr)
  refine rounds_at (fun w5 => w5.heap[w.heap.size]? = some (.cells #[.int .i64 0, .int .i64 0, .int .i64 0, .string (⟨#[]⟩ : ByteArray)] 30 (0, 0)) ∧ w5.heap[ga]? = some (.cells #[.int .i64 3, .int .i64 n0, .int .i64 0, .string (⟨#[]⟩ : ByteArray)] 30 (0, 0)) ∧ w5.heap[g]? = some (.cells #[.string k0, .string x1, .string x2] 9 (0, 0)) ∧ Below w.heap.size w w5) ⟨?_, ?_, ?_, ?_⟩ ?_
  · exact blk_far hr (fun h => hga3 h.symm) _
  · exact blk_put (kb hB ha) 1 _ rfl
  · exact blk_far (kb hB hw) (fun h => hga2 h.symm) _
  · exact (hb.trans (hB.mono hb.size)).setCell hga1 _
  clear ra fa f0 f1 f2 f3 r0 r1 r2 r3 hc hB hr ha hw hb
  rintro w5 ⟨hr, ha, hw, hb⟩
  have hc := blk_cell hw 2
  replace hc := hc.trans rfl
  rw [rounds_succ]
  go_wp2_with (go_at_call 49; refine (impl_readNumber.calls _ _ _ _ (HG.out.below hb) hn1.out).mono ?_; rintro e w6 ⟨rfl, hB⟩; have ra := ((blk_cell (kb hB ha) 2)).trans rfl; have fa := blk_frozen (kb hB ha) 2; replace hr := kb hB hr; obtain ⟨f0, f1, f2, f3⟩ := frz4 hr; obtain ⟨r0, r1, r2, r3⟩ := cells4 hr)
  refine bodyPost_ret (results_ct rfl _ _ w.heap.size 30 #[.int .i64 0, .int .i64 0, .int .i64 0, .string (⟨#[]⟩ : ByteArray)] (0, 0) _ rfl ?hblk Tryd.underlying30 rfl (by kernel_rfl)) rfl ?_
  case hblk =>
    exact put4 hr
  refine ⟨rfl, ?_⟩
  replace hb := hb.trans (hB.mono hb.size)
  repeat (first | exact hb | refine below_set ?_ (Nat.le_refl _))
set_option maxHeartbeats 8000000 in
set_option maxRecDepth 100000 in
theorem readDeed_drop_eq (a0 : ByteArray) (w : World) (hG : Glob w) (hs : a0.size < 4294967281) (k0 x1 x2 : ByteArray) (hk : wordsOf a0 = [k0, x1, x2]) (hj : kindIdx k0 = 3) (n0 n1 : Int) (hn0 : impl_readNumber.f x1 = some (n0, true)) (hn1 : impl_readNumber.f x2 = some (n1, true)) (t : ByteArray) (ht : impl_deedTextM.f 3 n0 n1 (⟨#[]⟩ : ByteArray) = some t) (he : (t.toList == a0.toList) = true) :
    Calls Tryd.prog 33 #[.string a0] w fun e w' => e = .returned (.tuple #[.agg #[.int .i64 3, .int .i64 n0, .int .i64 n1, .string (⟨#[]⟩ : ByteArray)], .bool true]) ∧ Below w.heap.size w w' := by
  have hS := splitWords hs hk
  simp only [List.length_cons, List.length_nil, Nat.zero_add, Nat.reduceAdd, List.map_cons, List.map_nil] at hS
  have hI := idxRow k0
  rw [hj] at hI
  have HG := Aside0.mk hG
  replace hn0 := Aside0.mk hn0
  replace hn1 := Aside0.mk hn1
  replace ht := Aside0.mk ht
  clear hG hj hs hk
  go_enter Tryd.func33, Tryd.ntmps33
  go_wp2_with (first | (go_at_call 48; refine (hI _ _ _ (heap_alloc_old (heap_alloc_new _ _) _) (Nat.le_refl _)).mono ?_; rintro e w2 ⟨rfl, ⟨nd, rfl⟩⟩) | (go_at_call 47; refine (hS _ (HG.out.below ((Below.refl _ _).alloc (Nat.le_refl _) _))).mono ?_; rintro e w1 ⟨g, rfl, hb, hg, hB⟩; have hc0 := ca2 ((blk_cell hb 0).trans rfl); have hc1 := ca2 ((blk_cell hb 1).trans rfl); have hc2 := ca2 ((blk_cell hb 2).trans rfl); have hR := (hB.block w.heap.size (by simp)).trans (heap_alloc_new w _); have hR2 := Aside0.mk (fun o1 o2 => heap_alloc_old (heap_alloc_old hR o1) o2); have hsz := hB.size; replace hb := Aside0.mk hb; have hBw := Aside0.mk (((Below.refl w.heap.size w).alloc (Nat.le_refl _) _).trans (hB.mono (by simp))); replace hg := Aside0.mk hg; replace hsz := Aside0.mk hsz; clear hR hB))
  clear hc0 hc1 hc2 hI hS
  have hgg := (Array.getElem?_eq_some_iff.1 hb.out).1
  obtain ⟨ga, hga⟩ : ∃ ga, w1.heap.size + 1 + 1 = ga := ⟨_, rfl⟩
  rw [hga]
  have hga1 : w.heap.size ≤ ga := by have := hsz.out; simp at this; omega
  have hga2 : ga ≠ g := by omega
  have hga3 : ga ≠ w.heap.size := by have := hsz.out; simp at this; omega
  refine wp_at (fun w5 => w5.heap[w.heap.size]? = some (.cells #[.int .i64 0, .int .i64 0, .int .i64 0, .string (⟨#[]⟩ : ByteArray)] 30 (0, 0)) ∧ w5.heap[ga]? = some (.cells #[.int .i64 3, .int .i64 0, .int .i64 0, .string (⟨#[]⟩ : ByteArray)] 30 (0, 0)) ∧ w5.heap[g]? = some (.cells #[.string k0, .string x1, .string x2] 9 (0, 0)) ∧ Below w.heap.size w w5) ⟨?_, ?_, ?_, ?_⟩ ?_
  · exact heap_alloc_old (blk_drewN (hR2.out _ _) _) _
  · exact alloc_new_at (by simp [hga])
  · exact heap_alloc_old (blk_drewN (heap_alloc_old (heap_alloc_old hb.out _) _) _) _
  · repeat (first | exact hBw.out | apply below_alloc | apply pw_below_drewN)
  clear hga hgg hb hR2 hBw hsz hg
  rintro w5 ⟨hr, ha, hw, hb⟩
  refine wp_loop_rounds 3 ?_
  have hc := blk_cell hw 1
  replace hc := hc.trans rfl
  rw [rounds_succ]
  go_wp2_with (go_at_call 49; refine (impl_readNumber.calls _ _ _ _ (HG.out.below hb) hn0.out).mono ?_; rintro e w6 ⟨rfl, hB⟩; have ra := ((blk_cell (kb hB ha) 1)).trans rfl; have fa := blk_frozen (kb hB ha) 1; replace hr := kb hB hr; obtain ⟨f0, f1, f2, f3⟩ := frz4 hr; obtain ⟨r0, r1, r2, r3⟩ := cells4 hr)
  refine rounds_at (fun w5 => w5.heap[w.heap.size]? = some (.cells #[.int .i64 0, .int .i64 0, .int .i64 0, .string (⟨#[]⟩ : ByteArray)] 30 (0, 0)) ∧ w5.heap[ga]? = some (.cells #[.int .i64 3, .int .i64 n0, .int .i64 0, .string (⟨#[]⟩ : ByteArray)] 30 (0, 0)) ∧ w5.heap[g]? = some (.cells #[.string k0, .string x1, .string x2] 9 (0, 0)) ∧ Below w.heap.size w w5) ⟨?_, ?_, ?_, ?_⟩ ?_
  · exact blk_far hr (fun h => hga3 h.symm) _
  · exact blk_put (kb hB ha) 1 _ rfl
  · exact blk_far (kb hB hw) (fun h => hga2 h.symm) _
  · exact (hb.trans (hB.mono hb.size)).setCell hga1 _
  clear ra fa f0 f1 f2 f3 r0 r1 r2 r3 hc hB hr ha hw hb
  rintro w5 ⟨hr, ha, hw, hb⟩
  have hc := blk_cell hw 2
  replace hc := hc.trans rfl
  rw [rounds_succ]
  go_wp2_with (go_at_call 49; refine (impl_readNumber.calls _ _ _ _ (HG.out.below hb) hn1.out).mono ?_; rintro e w6 ⟨rfl, hB⟩; have ra := ((blk_cell (kb hB ha) 2)).trans rfl; have fa := blk_frozen (kb hB ha) 2; replace hr := kb hB hr; obtain ⟨f0, f1, f2, f3⟩ := frz4 hr; obtain ⟨r0, r1, r2, r3⟩ := cells4 hr)
  refine rounds_at (fun w5 => w5.heap[w.heap.size]? = some (.cells #[.int .i64 0, .int .i64 0, .int .i64 0, .string (⟨#[]⟩ : ByteArray)] 30 (0, 0)) ∧ w5.heap[ga]? = some (.cells #[.int .i64 3, .int .i64 n0, .int .i64 n1, .string (⟨#[]⟩ : ByteArray)] 30 (0, 0)) ∧ w5.heap[g]? = some (.cells #[.string k0, .string x1, .string x2] 9 (0, 0)) ∧ Below w.heap.size w w5) ⟨?_, ?_, ?_, ?_⟩ ?_
  · exact blk_far hr (fun h => hga3 h.symm) _
  · exact blk_put (kb hB ha) 2 _ rfl
  · exact blk_far (kb hB hw) (fun h => hga2 h.symm) _
  · exact (hb.trans (hB.mono hb.size)).setCell hga1 _
  clear ra fa f0 f1 f2 f3 r0 r1 r2 r3 hc hB hr ha hw hb
  rintro w5 ⟨hr, ha, hw, hb⟩
  obtain ⟨q0, q1, q2, q3⟩ := cells4 ha
  rw [rounds_succ]
  go_wp2_with (go_at_call 29; refine (impl_deedTextM.calls _ _ _ _ _ _ ht.out).mono ?_; rintro e w6 ⟨rfl, hB⟩; obtain ⟨b0, b1, b2, b3⟩ := cells4 (kb hB ha); replace hr := kb hB hr; obtain ⟨f0, f1, f2, f3⟩ := frz4 hr; obtain ⟨r0, r1, r2, r3⟩ := cells4 hr)
  refine bodyPost_ret (results_ct rfl _ _ w.heap.size 30 #[.int .i64 3, .int .i64 n0, .int .i64 n1, .string (⟨#[]⟩ : ByteArray)] (0, 0) _ rfl ?hblk Tryd.underlying30 rfl (by kernel_rfl)) rfl ?_
  case hblk =>
    exact put4 hr
  refine ⟨rfl, ?_⟩
  replace hb := hb.trans (hB.mono hb.size)
  repeat (first | exact hb | refine below_set ?_ (Nat.le_refl _))
set_option maxHeartbeats 8000000 in
set_option maxRecDepth 100000 in
theorem readDeed_drop_ne (a0 : ByteArray) (w : World) (hG : Glob w) (hs : a0.size < 4294967281) (k0 x1 x2 : ByteArray) (hk : wordsOf a0 = [k0, x1, x2]) (hj : kindIdx k0 = 3) (n0 n1 : Int) (hn0 : impl_readNumber.f x1 = some (n0, true)) (hn1 : impl_readNumber.f x2 = some (n1, true)) (t : ByteArray) (ht : impl_deedTextM.f 3 n0 n1 (⟨#[]⟩ : ByteArray) = some t) (he : (t.toList == a0.toList) = false) :
    Calls Tryd.prog 33 #[.string a0] w fun e w' => e = .returned (.tuple #[.agg #[.int .i64 0, .int .i64 0, .int .i64 0, .string (⟨#[]⟩ : ByteArray)], .bool false]) ∧ Below w.heap.size w w' := by
  have hS := splitWords hs hk
  simp only [List.length_cons, List.length_nil, Nat.zero_add, Nat.reduceAdd, List.map_cons, List.map_nil] at hS
  have hI := idxRow k0
  rw [hj] at hI
  have HG := Aside0.mk hG
  replace hn0 := Aside0.mk hn0
  replace hn1 := Aside0.mk hn1
  replace ht := Aside0.mk ht
  clear hG hj hs hk
  go_enter Tryd.func33, Tryd.ntmps33
  go_wp2_with (first | (go_at_call 48; refine (hI _ _ _ (heap_alloc_old (heap_alloc_new _ _) _) (Nat.le_refl _)).mono ?_; rintro e w2 ⟨rfl, ⟨nd, rfl⟩⟩) | (go_at_call 47; refine (hS _ (HG.out.below ((Below.refl _ _).alloc (Nat.le_refl _) _))).mono ?_; rintro e w1 ⟨g, rfl, hb, hg, hB⟩; have hc0 := ca2 ((blk_cell hb 0).trans rfl); have hc1 := ca2 ((blk_cell hb 1).trans rfl); have hc2 := ca2 ((blk_cell hb 2).trans rfl); have hR := (hB.block w.heap.size (by simp)).trans (heap_alloc_new w _); have hR2 := Aside0.mk (fun o1 o2 => heap_alloc_old (heap_alloc_old hR o1) o2); have hsz := hB.size; replace hb := Aside0.mk hb; have hBw := Aside0.mk (((Below.refl w.heap.size w).alloc (Nat.le_refl _) _).trans (hB.mono (by simp))); replace hg := Aside0.mk hg; replace hsz := Aside0.mk hsz; clear hR hB))
  clear hc0 hc1 hc2 hI hS
  have hgg := (Array.getElem?_eq_some_iff.1 hb.out).1
  obtain ⟨ga, hga⟩ : ∃ ga, w1.heap.size + 1 + 1 = ga := ⟨_, rfl⟩
  rw [hga]
  have hga1 : w.heap.size ≤ ga := by have := hsz.out; simp at this; omega
  have hga2 : ga ≠ g := by omega
  have hga3 : ga ≠ w.heap.size := by have := hsz.out; simp at this; omega
  refine wp_at (fun w5 => w5.heap[w.heap.size]? = some (.cells #[.int .i64 0, .int .i64 0, .int .i64 0, .string (⟨#[]⟩ : ByteArray)] 30 (0, 0)) ∧ w5.heap[ga]? = some (.cells #[.int .i64 3, .int .i64 0, .int .i64 0, .string (⟨#[]⟩ : ByteArray)] 30 (0, 0)) ∧ w5.heap[g]? = some (.cells #[.string k0, .string x1, .string x2] 9 (0, 0)) ∧ Below w.heap.size w w5) ⟨?_, ?_, ?_, ?_⟩ ?_
  · exact heap_alloc_old (blk_drewN (hR2.out _ _) _) _
  · exact alloc_new_at (by simp [hga])
  · exact heap_alloc_old (blk_drewN (heap_alloc_old (heap_alloc_old hb.out _) _) _) _
  · repeat (first | exact hBw.out | apply below_alloc | apply pw_below_drewN)
  clear hga hgg hb hR2 hBw hsz hg
  rintro w5 ⟨hr, ha, hw, hb⟩
  refine wp_loop_rounds 3 ?_
  have hc := blk_cell hw 1
  replace hc := hc.trans rfl
  rw [rounds_succ]
  go_wp2_with (go_at_call 49; refine (impl_readNumber.calls _ _ _ _ (HG.out.below hb) hn0.out).mono ?_; rintro e w6 ⟨rfl, hB⟩; have ra := ((blk_cell (kb hB ha) 1)).trans rfl; have fa := blk_frozen (kb hB ha) 1; replace hr := kb hB hr; obtain ⟨f0, f1, f2, f3⟩ := frz4 hr; obtain ⟨r0, r1, r2, r3⟩ := cells4 hr)
  refine rounds_at (fun w5 => w5.heap[w.heap.size]? = some (.cells #[.int .i64 0, .int .i64 0, .int .i64 0, .string (⟨#[]⟩ : ByteArray)] 30 (0, 0)) ∧ w5.heap[ga]? = some (.cells #[.int .i64 3, .int .i64 n0, .int .i64 0, .string (⟨#[]⟩ : ByteArray)] 30 (0, 0)) ∧ w5.heap[g]? = some (.cells #[.string k0, .string x1, .string x2] 9 (0, 0)) ∧ Below w.heap.size w w5) ⟨?_, ?_, ?_, ?_⟩ ?_
  · exact blk_far hr (fun h => hga3 h.symm) _
  · exact blk_put (kb hB ha) 1 _ rfl
  · exact blk_far (kb hB hw) (fun h => hga2 h.symm) _
  · exact (hb.trans (hB.mono hb.size)).setCell hga1 _
  clear ra fa f0 f1 f2 f3 r0 r1 r2 r3 hc hB hr ha hw hb
  rintro w5 ⟨hr, ha, hw, hb⟩
  have hc := blk_cell hw 2
  replace hc := hc.trans rfl
  rw [rounds_succ]
  go_wp2_with (go_at_call 49; refine (impl_readNumber.calls _ _ _ _ (HG.out.below hb) hn1.out).mono ?_; rintro e w6 ⟨rfl, hB⟩; have ra := ((blk_cell (kb hB ha) 2)).trans rfl; have fa := blk_frozen (kb hB ha) 2; replace hr := kb hB hr; obtain ⟨f0, f1, f2, f3⟩ := frz4 hr; obtain ⟨r0, r1, r2, r3⟩ := cells4 hr)
  refine rounds_at (fun w5 => w5.heap[w.heap.size]? = some (.cells #[.int .i64 0, .int .i64 0, .int .i64 0, .string (⟨#[]⟩ : ByteArray)] 30 (0, 0)) ∧ w5.heap[ga]? = some (.cells #[.int .i64 3, .int .i64 n0, .int .i64 n1, .string (⟨#[]⟩ : ByteArray)] 30 (0, 0)) ∧ w5.heap[g]? = some (.cells #[.string k0, .string x1, .string x2] 9 (0, 0)) ∧ Below w.heap.size w w5) ⟨?_, ?_, ?_, ?_⟩ ?_
  · exact blk_far hr (fun h => hga3 h.symm) _
  · exact blk_put (kb hB ha) 2 _ rfl
  · exact blk_far (kb hB hw) (fun h => hga2 h.symm) _
  · exact (hb.trans (hB.mono hb.size)).setCell hga1 _
  clear ra fa f0 f1 f2 f3 r0 r1 r2 r3 hc hB hr ha hw hb
  rintro w5 ⟨hr, ha, hw, hb⟩
  obtain ⟨q0, q1, q2, q3⟩ := cells4 ha
  rw [rounds_succ]
  go_wp2_with (go_at_call 29; refine (impl_deedTextM.calls _ _ _ _ _ _ ht.out).mono ?_; rintro e w6 ⟨rfl, hB⟩; obtain ⟨b0, b1, b2, b3⟩ := cells4 (kb hB ha); replace hr := kb hB hr; obtain ⟨f0, f1, f2, f3⟩ := frz4 hr; obtain ⟨r0, r1, r2, r3⟩ := cells4 hr)
  refine bodyPost_ret (results_ct rfl _ _ w.heap.size 30 #[.int .i64 0, .int .i64 0, .int .i64 0, .string (⟨#[]⟩ : ByteArray)] (0, 0) _ rfl ?hblk Tryd.underlying30 rfl (by kernel_rfl)) rfl ?_
  case hblk =>
    exact put4 hr
  refine ⟨rfl, ?_⟩
  replace hb := hb.trans (hB.mono hb.size)
  repeat (first | exact hb | refine below_set ?_ (Nat.le_refl _))
set_option maxHeartbeats 8000000 in
set_option maxRecDepth 100000 in
theorem readDeed_back_eq (a0 : ByteArray) (w : World) (hG : Glob w) (hs : a0.size < 4294967281) (k0 : ByteArray) (hk : wordsOf a0 = [k0]) (hj : kindIdx k0 = 4) (t : ByteArray) (ht : impl_deedTextM.f 4 0 0 (⟨#[]⟩ : ByteArray) = some t) (he : (t.toList == a0.toList) = true) :
    Calls Tryd.prog 33 #[.string a0] w fun e w' => e = .returned (.tuple #[.agg #[.int .i64 4, .int .i64 0, .int .i64 0, .string (⟨#[]⟩ : ByteArray)], .bool true]) ∧ Below w.heap.size w w' := by
  have hS := splitWords hs hk
  simp only [List.length_cons, List.length_nil, Nat.zero_add, Nat.reduceAdd, List.map_cons, List.map_nil] at hS
  have hI := idxRow k0
  rw [hj] at hI
  have HG := Aside0.mk hG
  replace ht := Aside0.mk ht
  clear hG hj hs hk
  go_enter Tryd.func33, Tryd.ntmps33
  go_wp2_with (first | (go_at_call 48; refine (hI _ _ _ (heap_alloc_old (heap_alloc_new _ _) _) (Nat.le_refl _)).mono ?_; rintro e w2 ⟨rfl, ⟨nd, rfl⟩⟩) | (go_at_call 47; refine (hS _ (HG.out.below ((Below.refl _ _).alloc (Nat.le_refl _) _))).mono ?_; rintro e w1 ⟨g, rfl, hb, hg, hB⟩; have hc0 := ca2 ((blk_cell hb 0).trans rfl); have hR := (hB.block w.heap.size (by simp)).trans (heap_alloc_new w _); have hR2 := Aside0.mk (fun o1 o2 => heap_alloc_old (heap_alloc_old hR o1) o2); have hsz := hB.size; replace hb := Aside0.mk hb; have hBw := Aside0.mk (((Below.refl w.heap.size w).alloc (Nat.le_refl _) _).trans (hB.mono (by simp))); replace hg := Aside0.mk hg; replace hsz := Aside0.mk hsz; clear hR hB))
  clear hc0 hI hS
  have hgg := (Array.getElem?_eq_some_iff.1 hb.out).1
  obtain ⟨ga, hga⟩ : ∃ ga, w1.heap.size + 1 + 1 = ga := ⟨_, rfl⟩
  rw [hga]
  have hga1 : w.heap.size ≤ ga := by have := hsz.out; simp at this; omega
  have hga2 : ga ≠ g := by omega
  have hga3 : ga ≠ w.heap.size := by have := hsz.out; simp at this; omega
  refine wp_at (fun w5 => w5.heap[w.heap.size]? = some (.cells #[.int .i64 0, .int .i64 0, .int .i64 0, .string (⟨#[]⟩ : ByteArray)] 30 (0, 0)) ∧ w5.heap[ga]? = some (.cells #[.int .i64 4, .int .i64 0, .int .i64 0, .string (⟨#[]⟩ : ByteArray)] 30 (0, 0)) ∧ w5.heap[g]? = some (.cells #[.string k0] 9 (0, 0)) ∧ Below w.heap.size w w5) ⟨?_, ?_, ?_, ?_⟩ ?_
  · exact heap_alloc_old (blk_drewN (hR2.out _ _) _) _
  · exact alloc_new_at (by simp [hga])
  · exact heap_alloc_old (blk_drewN (heap_alloc_old (heap_alloc_old hb.out _) _) _) _
  · repeat (first | exact hBw.out | apply below_alloc | apply pw_below_drewN)
  clear hga hgg hb hR2 hBw hsz hg
  rintro w5 ⟨hr, ha, hw, hb⟩
  refine wp_loop_rounds 1 ?_
  obtain ⟨q0, q1, q2, q3⟩ := cells4 ha
  rw [rounds_succ]
  go_wp2_with (go_at_call 29; refine (impl_deedTextM.calls _ _ _ _ _ _ ht.out).mono ?_; rintro e w6 ⟨rfl, hB⟩; obtain ⟨b0, b1, b2, b3⟩ := cells4 (kb hB ha); replace hr := kb hB hr; obtain ⟨f0, f1, f2, f3⟩ := frz4 hr; obtain ⟨r0, r1, r2, r3⟩ := cells4 hr)
  refine bodyPost_ret (results_ct rfl _ _ w.heap.size 30 #[.int .i64 4, .int .i64 0, .int .i64 0, .string (⟨#[]⟩ : ByteArray)] (0, 0) _ rfl ?hblk Tryd.underlying30 rfl (by kernel_rfl)) rfl ?_
  case hblk =>
    exact put4 hr
  refine ⟨rfl, ?_⟩
  replace hb := hb.trans (hB.mono hb.size)
  repeat (first | exact hb | refine below_set ?_ (Nat.le_refl _))
set_option maxHeartbeats 8000000 in
set_option maxRecDepth 100000 in
theorem readDeed_back_ne (a0 : ByteArray) (w : World) (hG : Glob w) (hs : a0.size < 4294967281) (k0 : ByteArray) (hk : wordsOf a0 = [k0]) (hj : kindIdx k0 = 4) (t : ByteArray) (ht : impl_deedTextM.f 4 0 0 (⟨#[]⟩ : ByteArray) = some t) (he : (t.toList == a0.toList) = false) :
    Calls Tryd.prog 33 #[.string a0] w fun e w' => e = .returned (.tuple #[.agg #[.int .i64 0, .int .i64 0, .int .i64 0, .string (⟨#[]⟩ : ByteArray)], .bool false]) ∧ Below w.heap.size w w' := by
  have hS := splitWords hs hk
  simp only [List.length_cons, List.length_nil, Nat.zero_add, Nat.reduceAdd, List.map_cons, List.map_nil] at hS
  have hI := idxRow k0
  rw [hj] at hI
  have HG := Aside0.mk hG
  replace ht := Aside0.mk ht
  clear hG hj hs hk
  go_enter Tryd.func33, Tryd.ntmps33
  go_wp2_with (first | (go_at_call 48; refine (hI _ _ _ (heap_alloc_old (heap_alloc_new _ _) _) (Nat.le_refl _)).mono ?_; rintro e w2 ⟨rfl, ⟨nd, rfl⟩⟩) | (go_at_call 47; refine (hS _ (HG.out.below ((Below.refl _ _).alloc (Nat.le_refl _) _))).mono ?_; rintro e w1 ⟨g, rfl, hb, hg, hB⟩; have hc0 := ca2 ((blk_cell hb 0).trans rfl); have hR := (hB.block w.heap.size (by simp)).trans (heap_alloc_new w _); have hR2 := Aside0.mk (fun o1 o2 => heap_alloc_old (heap_alloc_old hR o1) o2); have hsz := hB.size; replace hb := Aside0.mk hb; have hBw := Aside0.mk (((Below.refl w.heap.size w).alloc (Nat.le_refl _) _).trans (hB.mono (by simp))); replace hg := Aside0.mk hg; replace hsz := Aside0.mk hsz; clear hR hB))
  clear hc0 hI hS
  have hgg := (Array.getElem?_eq_some_iff.1 hb.out).1
  obtain ⟨ga, hga⟩ : ∃ ga, w1.heap.size + 1 + 1 = ga := ⟨_, rfl⟩
  rw [hga]
  have hga1 : w.heap.size ≤ ga := by have := hsz.out; simp at this; omega
  have hga2 : ga ≠ g := by omega
  have hga3 : ga ≠ w.heap.size := by have := hsz.out; simp at this; omega
  refine wp_at (fun w5 => w5.heap[w.heap.size]? = some (.cells #[.int .i64 0, .int .i64 0, .int .i64 0, .string (⟨#[]⟩ : ByteArray)] 30 (0, 0)) ∧ w5.heap[ga]? = some (.cells #[.int .i64 4, .int .i64 0, .int .i64 0, .string (⟨#[]⟩ : ByteArray)] 30 (0, 0)) ∧ w5.heap[g]? = some (.cells #[.string k0] 9 (0, 0)) ∧ Below w.heap.size w w5) ⟨?_, ?_, ?_, ?_⟩ ?_
  · exact heap_alloc_old (blk_drewN (hR2.out _ _) _) _
  · exact alloc_new_at (by simp [hga])
  · exact heap_alloc_old (blk_drewN (heap_alloc_old (heap_alloc_old hb.out _) _) _) _
  · repeat (first | exact hBw.out | apply below_alloc | apply pw_below_drewN)
  clear hga hgg hb hR2 hBw hsz hg
  rintro w5 ⟨hr, ha, hw, hb⟩
  refine wp_loop_rounds 1 ?_
  obtain ⟨q0, q1, q2, q3⟩ := cells4 ha
  rw [rounds_succ]
  go_wp2_with (go_at_call 29; refine (impl_deedTextM.calls _ _ _ _ _ _ ht.out).mono ?_; rintro e w6 ⟨rfl, hB⟩; obtain ⟨b0, b1, b2, b3⟩ := cells4 (kb hB ha); replace hr := kb hB hr; obtain ⟨f0, f1, f2, f3⟩ := frz4 hr; obtain ⟨r0, r1, r2, r3⟩ := cells4 hr)
  refine bodyPost_ret (results_ct rfl _ _ w.heap.size 30 #[.int .i64 0, .int .i64 0, .int .i64 0, .string (⟨#[]⟩ : ByteArray)] (0, 0) _ rfl ?hblk Tryd.underlying30 rfl (by kernel_rfl)) rfl ?_
  case hblk =>
    exact put4 hr
  refine ⟨rfl, ?_⟩
  replace hb := hb.trans (hB.mono hb.size)
  repeat (first | exact hb | refine below_set ?_ (Nat.le_refl _))
set_option maxHeartbeats 8000000 in
set_option maxRecDepth 100000 in
theorem readDeed_ruleE_0 (a0 : ByteArray) (w : World) (hG : Glob w) (hs : a0.size < 4294967281) (k0 : ByteArray) (hk : wordsOf a0 = [k0, ⟨#[]⟩]) (hj : kindIdx k0 = 1) (n0 : Int) (hn0 : impl_readNumber.f ⟨#[]⟩ = some (n0, false)) :
    Calls Tryd.prog 33 #[.string a0] w fun e w' => e = .returned (.tuple #[.agg #[.int .i64 0, .int .i64 0, .int .i64 0, .string (⟨#[]⟩ : ByteArray)], .bool false]) ∧ Below w.heap.size w w' := by
  have hS := splitWords hs hk
  simp only [List.length_cons, List.length_nil, Nat.zero_add, Nat.reduceAdd, List.map_cons, List.map_nil] at hS
  have hI := idxRow k0
  rw [hj] at hI
  have HG := Aside0.mk hG
  replace hn0 := Aside0.mk hn0
  clear hG hj hs hk
  go_enter Tryd.func33, Tryd.ntmps33
  go_wp2_with (first | (go_at_call 48; refine (hI _ _ _ (heap_alloc_old (heap_alloc_new _ _) _) (Nat.le_refl _)).mono ?_; rintro e w2 ⟨rfl, ⟨nd, rfl⟩⟩) | (go_at_call 47; refine (hS _ (HG.out.below ((Below.refl _ _).alloc (Nat.le_refl _) _))).mono ?_; rintro e w1 ⟨g, rfl, hb, hg, hB⟩; have hc0 := ca2 ((blk_cell hb 0).trans rfl); have hc1 := ca2 ((blk_cell hb 1).trans rfl); have hd := fun o1 o2 n o3 => cell_alloc (w := ((w1.alloc o1).alloc o2).drewN n) (hc1 o1 o2) o3; have hf := fun o1 o2 n => blk_frozen (alloc_new_at (w := ((w1.alloc o1).alloc o2).drewN n) (o := .cells #[.int .i64 1, .int .i64 0, .int .i64 0, .string (⟨#[]⟩ : ByteArray)] 30 (0, 0)) (g := w1.heap.size + 1 + 1) (by simp)) 3; have hx := fun o1 o2 n => (blk_cell (alloc_new_at (w := ((w1.alloc o1).alloc o2).drewN n) (o := .cells #[.int .i64 1, .int .i64 0, .int .i64 0, .string (⟨#[]⟩ : ByteArray)] 30 (0, 0)) (g := w1.heap.size + 1 + 1) (by simp)) 3).trans rfl; have hR := (hB.block w.heap.size (by simp)).trans (heap_alloc_new w _); have hR2 := Aside0.mk (fun o1 o2 => heap_alloc_old (heap_alloc_old hR o1) o2); have hsz := hB.size; replace hb := Aside0.mk hb; have hBw := Aside0.mk (((Below.refl w.heap.size w).alloc (Nat.le_refl _) _).trans (hB.mono (by simp))); replace hg := Aside0.mk hg; replace hsz := Aside0.mk hsz; clear hR hB))
  clear hc0 hc1 hI hS
  have hgg := (Array.getElem?_eq_some_iff.1 hb.out).1
  obtain ⟨ga, hga⟩ : ∃ ga, w1.heap.size + 1 + 1 = ga := ⟨_, rfl⟩
  rw [hga]
  have hga1 : w.heap.size ≤ ga := by have := hsz.out; simp at this; omega
  have hga2 : ga ≠ g := by omega
  have hga3 : ga ≠ w.heap.size := by have := hsz.out; simp at this; omega
  refine wp_at (fun w5 => w5.heap[w.heap.size]? = some (.cells #[.int .i64 0, .int .i64 0, .int .i64 0, .string (⟨#[]⟩ : ByteArray)] 30 (0, 0)) ∧ w5.heap[ga]? = some (.cells #[.int .i64 1, .int .i64 0, .int .i64 0, .string (⟨#[]⟩ : ByteArray)] 30 (0, 0)) ∧ w5.heap[g]? = some (.cells #[.string k0, .string ⟨#[]⟩] 9 (0, 0)) ∧ Below w.heap.size w w5) ⟨?_, ?_, ?_, ?_⟩ ?_
  · exact heap_alloc_old (blk_drewN (hR2.out _ _) _) _
  · exact alloc_new_at (by simp [hga])
  · exact heap_alloc_old (blk_drewN (heap_alloc_old (heap_alloc_old hb.out _) _) _) _
  · repeat (first | exact hBw.out | apply below_alloc | apply pw_below_drewN)
  clear hd hf hx
  clear hga hgg hb hR2 hBw hsz hg
  rintro w5 ⟨hr, ha, hw, hb⟩
  refine wp_loop_rounds 1 ?_
  have hc := blk_cell hw 1
  replace hc := hc.trans rfl
  rw [rounds_succ]
  go_wp2_with (go_at_call 49; refine (impl_readNumber.calls _ _ _ _ (HG.out.below hb) hn0.out).mono ?_; rintro e w6 ⟨rfl, hB⟩; have ra := ((blk_cell (kb hB ha) 1)).trans rfl; have fa := blk_frozen (kb hB ha) 1; replace hr := kb hB hr; obtain ⟨f0, f1, f2, f3⟩ := frz4 hr; obtain ⟨r0, r1, r2, r3⟩ := cells4 hr)
  refine bodyPost_ret (results_ct rfl _ _ w.heap.size 30 #[.int .i64 0, .int .i64 0, .int .i64 0, .string (⟨#[]⟩ : ByteArray)] (0, 0) _ rfl ?hblk Tryd.underlying30 rfl (by kernel_rfl)) rfl ?_
  case hblk =>
    exact put4 hr
  refine ⟨rfl, ?_⟩
  replace hb := hb.trans (hB.mono hb.size)
  repeat (first | exact hb | refine below_set ?_ (Nat.le_refl _))
set_option maxHeartbeats 8000000 in
set_option maxRecDepth 100000 in
theorem readDeed_ruleW_eq (a0 : ByteArray) (w : World) (hG : Glob w) (hs : a0.size < 4294967281) (k0 x1 : ByteArray) (hk : wordsOf a0 = [k0, x1]) (hj : kindIdx k0 = 1) (hz : x1.toList.isEmpty = false) (t : ByteArray) (ht : impl_deedTextM.f 1 0 0 x1 = some t) (he : (t.toList == a0.toList) = true) :
    Calls Tryd.prog 33 #[.string a0] w fun e w' => e = .returned (.tuple #[.agg #[.int .i64 1, .int .i64 0, .int .i64 0, .string x1], .bool true]) ∧ Below w.heap.size w w' := by
  have hS := splitWords hs hk
  simp only [List.length_cons, List.length_nil, Nat.zero_add, Nat.reduceAdd, List.map_cons, List.map_nil] at hS
  have hI := idxRow k0
  rw [hj] at hI
  have HG := Aside0.mk hG
  replace ht := Aside0.mk ht
  clear hG hj hs hk
  go_enter Tryd.func33, Tryd.ntmps33
  go_wp2_with (first | (go_at_call 48; refine (hI _ _ _ (heap_alloc_old (heap_alloc_new _ _) _) (Nat.le_refl _)).mono ?_; rintro e w2 ⟨rfl, ⟨nd, rfl⟩⟩) | (go_at_call 47; refine (hS _ (HG.out.below ((Below.refl _ _).alloc (Nat.le_refl _) _))).mono ?_; rintro e w1 ⟨g, rfl, hb, hg, hB⟩; have hc0 := ca2 ((blk_cell hb 0).trans rfl); have hc1 := ca2 ((blk_cell hb 1).trans rfl); have hd := fun o1 o2 n o3 => cell_alloc (w := ((w1.alloc o1).alloc o2).drewN n) (hc1 o1 o2) o3; have hf := fun o1 o2 n => blk_frozen (alloc_new_at (w := ((w1.alloc o1).alloc o2).drewN n) (o := .cells #[.int .i64 1, .int .i64 0, .int .i64 0, .string (⟨#[]⟩ : ByteArray)] 30 (0, 0)) (g := w1.heap.size + 1 + 1) (by simp)) 3; have hx := fun o1 o2 n => (blk_cell (alloc_new_at (w := ((w1.alloc o1).alloc o2).drewN n) (o := .cells #[.int .i64 1, .int .i64 0, .int .i64 0, .string (⟨#[]⟩ : ByteArray)] 30 (0, 0)) (g := w1.heap.size + 1 + 1) (by simp)) 3).trans rfl; have hR := (hB.block w.heap.size (by simp)).trans (heap_alloc_new w _); have hR2 := Aside0.mk (fun o1 o2 => heap_alloc_old (heap_alloc_old hR o1) o2); have hsz := hB.size; replace hb := Aside0.mk hb; have hBw := Aside0.mk (((Below.refl w.heap.size w).alloc (Nat.le_refl _) _).trans (hB.mono (by simp))); replace hg := Aside0.mk hg; replace hsz := Aside0.mk hsz; clear hR hB))
  clear hc0 hc1 hI hS
  have hgg := (Array.getElem?_eq_some_iff.1 hb.out).1
  obtain ⟨ga, hga⟩ : ∃ ga, w1.heap.size + 1 + 1 = ga := ⟨_, rfl⟩
  rw [hga]
  have hga1 : w.heap.size ≤ ga := by have := hsz.out; simp at this; omega
  have hga2 : ga ≠ g := by omega
  have hga3 : ga ≠ w.heap.size := by have := hsz.out; simp at this; omega
  refine wp_at (fun w5 => w5.heap[w.heap.size]? = some (.cells #[.int .i64 0, .int .i64 0, .int .i64 0, .string (⟨#[]⟩ : ByteArray)] 30 (0, 0)) ∧ w5.heap[ga]? = some (.cells #[.int .i64 1, .int .i64 0, .int .i64 0, .string x1] 30 (0, 0)) ∧ w5.heap[g]? = some (.cells #[.string k0, .string x1] 9 (0, 0)) ∧ Below w.heap.size w w5) ⟨?_, ?_, ?_, ?_⟩ ?_
  · exact heap_alloc_old (blk_drewN (hR2.out _ _) _) _
  · exact alloc_new_at (by simp [hga])
  · exact heap_alloc_old (blk_drewN (heap_alloc_old (heap_alloc_old hb.out _) _) _) _
  · repeat (first | exact hBw.out | apply below_alloc | apply pw_below_drewN)
  clear hd hf hx
  clear hga hgg hb hR2 hBw hsz hg
  rintro w5 ⟨hr, ha, hw, hb⟩
  refine wp_loop_rounds 1 ?_
  obtain ⟨q0, q1, q2, q3⟩ := cells4 ha
  rw [rounds_succ]
  go_wp2_with (go_at_call 29; refine (impl_deedTextM.calls _ _ _ _ _ _ ht.out).mono ?_; rintro e w6 ⟨rfl, hB⟩; obtain ⟨b0, b1, b2, b3⟩ := cells4 (kb hB ha); replace hr := kb hB hr; obtain ⟨f0, f1, f2, f3⟩ := frz4 hr; obtain ⟨r0, r1, r2, r3⟩ := cells4 hr)
  refine bodyPost_ret (results_ct rfl _ _ w.heap.size 30 #[.int .i64 1, .int .i64 0, .int .i64 0, .string x1] (0, 0) _ rfl ?hblk Tryd.underlying30 rfl (by kernel_rfl)) rfl ?_
  case hblk =>
    exact put4 hr
  refine ⟨rfl, ?_⟩
  replace hb := hb.trans (hB.mono hb.size)
  repeat (first | exact hb | refine below_set ?_ (Nat.le_refl _))
set_option maxHeartbeats 8000000 in
set_option maxRecDepth 100000 in
theorem readDeed_ruleW_ne (a0 : ByteArray) (w : World) (hG : Glob w) (hs : a0.size < 4294967281) (k0 x1 : ByteArray) (hk : wordsOf a0 = [k0, x1]) (hj : kindIdx k0 = 1) (hz : x1.toList.isEmpty = false) (t : ByteArray) (ht : impl_deedTextM.f 1 0 0 x1 = some t) (he : (t.toList == a0.toList) = false) :
    Calls Tryd.prog 33 #[.string a0] w fun e w' => e = .returned (.tuple #[.agg #[.int .i64 0, .int .i64 0, .int .i64 0, .string (⟨#[]⟩ : ByteArray)], .bool false]) ∧ Below w.heap.size w w' := by
  have hS := splitWords hs hk
  simp only [List.length_cons, List.length_nil, Nat.zero_add, Nat.reduceAdd, List.map_cons, List.map_nil] at hS
  have hI := idxRow k0
  rw [hj] at hI
  have HG := Aside0.mk hG
  replace ht := Aside0.mk ht
  clear hG hj hs hk
  go_enter Tryd.func33, Tryd.ntmps33
  go_wp2_with (first | (go_at_call 48; refine (hI _ _ _ (heap_alloc_old (heap_alloc_new _ _) _) (Nat.le_refl _)).mono ?_; rintro e w2 ⟨rfl, ⟨nd, rfl⟩⟩) | (go_at_call 47; refine (hS _ (HG.out.below ((Below.refl _ _).alloc (Nat.le_refl _) _))).mono ?_; rintro e w1 ⟨g, rfl, hb, hg, hB⟩; have hc0 := ca2 ((blk_cell hb 0).trans rfl); have hc1 := ca2 ((blk_cell hb 1).trans rfl); have hd := fun o1 o2 n o3 => cell_alloc (w := ((w1.alloc o1).alloc o2).drewN n) (hc1 o1 o2) o3; have hf := fun o1 o2 n => blk_frozen (alloc_new_at (w := ((w1.alloc o1).alloc o2).drewN n) (o := .cells #[.int .i64 1, .int .i64 0, .int .i64 0, .string (⟨#[]⟩ : ByteArray)] 30 (0, 0)) (g := w1.heap.size + 1 + 1) (by simp)) 3; have hx := fun o1 o2 n => (blk_cell (alloc_new_at (w := ((w1.alloc o1).alloc o2).drewN n) (o := .cells #[.int .i64 1, .int .i64 0, .int .i64 0, .string (⟨#[]⟩ : ByteArray)] 30 (0, 0)) (g := w1.heap.size + 1 + 1) (by simp)) 3).trans rfl; have hR := (hB.block w.heap.size (by simp)).trans (heap_alloc_new w _); have hR2 := Aside0.mk (fun o1 o2 => heap_alloc_old (heap_alloc_old hR o1) o2); have hsz := hB.size; replace hb := Aside0.mk hb; have hBw := Aside0.mk (((Below.refl w.heap.size w).alloc (Nat.le_refl _) _).trans (hB.mono (by simp))); replace hg := Aside0.mk hg; replace hsz := Aside0.mk hsz; clear hR hB))
  clear hc0 hc1 hI hS
  have hgg := (Array.getElem?_eq_some_iff.1 hb.out).1
  obtain ⟨ga, hga⟩ : ∃ ga, w1.heap.size + 1 + 1 = ga := ⟨_, rfl⟩
  rw [hga]
  have hga1 : w.heap.size ≤ ga := by have := hsz.out; simp at this; omega
  have hga2 : ga ≠ g := by omega
  have hga3 : ga ≠ w.heap.size := by have := hsz.out; simp at this; omega
  refine wp_at (fun w5 => w5.heap[w.heap.size]? = some (.cells #[.int .i64 0, .int .i64 0, .int .i64 0, .string (⟨#[]⟩ : ByteArray)] 30 (0, 0)) ∧ w5.heap[ga]? = some (.cells #[.int .i64 1, .int .i64 0, .int .i64 0, .string x1] 30 (0, 0)) ∧ w5.heap[g]? = some (.cells #[.string k0, .string x1] 9 (0, 0)) ∧ Below w.heap.size w w5) ⟨?_, ?_, ?_, ?_⟩ ?_
  · exact heap_alloc_old (blk_drewN (hR2.out _ _) _) _
  · exact alloc_new_at (by simp [hga])
  · exact heap_alloc_old (blk_drewN (heap_alloc_old (heap_alloc_old hb.out _) _) _) _
  · repeat (first | exact hBw.out | apply below_alloc | apply pw_below_drewN)
  clear hd hf hx
  clear hga hgg hb hR2 hBw hsz hg
  rintro w5 ⟨hr, ha, hw, hb⟩
  refine wp_loop_rounds 1 ?_
  obtain ⟨q0, q1, q2, q3⟩ := cells4 ha
  rw [rounds_succ]
  go_wp2_with (go_at_call 29; refine (impl_deedTextM.calls _ _ _ _ _ _ ht.out).mono ?_; rintro e w6 ⟨rfl, hB⟩; obtain ⟨b0, b1, b2, b3⟩ := cells4 (kb hB ha); replace hr := kb hB hr; obtain ⟨f0, f1, f2, f3⟩ := frz4 hr; obtain ⟨r0, r1, r2, r3⟩ := cells4 hr)
  refine bodyPost_ret (results_ct rfl _ _ w.heap.size 30 #[.int .i64 0, .int .i64 0, .int .i64 0, .string (⟨#[]⟩ : ByteArray)] (0, 0) _ rfl ?hblk Tryd.underlying30 rfl (by kernel_rfl)) rfl ?_
  case hblk =>
    exact put4 hr
  refine ⟨rfl, ?_⟩
  replace hb := hb.trans (hB.mono hb.size)
  repeat (first | exact hb | refine below_set ?_ (Nat.le_refl _))
set_option maxHeartbeats 8000000 in
set_option maxRecDepth 100000 in
theorem readDeed_amendE_0 (a0 : ByteArray) (w : World) (hG : Glob w) (hs : a0.size < 4294967281) (k0 x1 x2 : ByteArray) (hk : wordsOf a0 = [k0, x1, x2, ⟨#[]⟩]) (hj : kindIdx k0 = 2) (n0 : Int) (hn0 : impl_readNumber.f x1 = some (n0, false)) :
    Calls Tryd.prog 33 #[.string a0] w fun e w' => e = .returned (.tuple #[.agg #[.int .i64 0, .int .i64 0, .int .i64 0, .string (⟨#[]⟩ : ByteArray)], .bool false]) ∧ Below w.heap.size w w' := by
  have hS := splitWords hs hk
  simp only [List.length_cons, List.length_nil, Nat.zero_add, Nat.reduceAdd, List.map_cons, List.map_nil] at hS
  have hI := idxRow k0
  rw [hj] at hI
  have HG := Aside0.mk hG
  replace hn0 := Aside0.mk hn0
  clear hG hj hs hk
  go_enter Tryd.func33, Tryd.ntmps33
  go_wp2_with (first | (go_at_call 48; refine (hI _ _ _ (heap_alloc_old (heap_alloc_new _ _) _) (Nat.le_refl _)).mono ?_; rintro e w2 ⟨rfl, ⟨nd, rfl⟩⟩) | (go_at_call 47; refine (hS _ (HG.out.below ((Below.refl _ _).alloc (Nat.le_refl _) _))).mono ?_; rintro e w1 ⟨g, rfl, hb, hg, hB⟩; have hc0 := ca2 ((blk_cell hb 0).trans rfl); have hc1 := ca2 ((blk_cell hb 1).trans rfl); have hc2 := ca2 ((blk_cell hb 2).trans rfl); have hc3 := ca2 ((blk_cell hb 3).trans rfl); have hd := fun o1 o2 n o3 => cell_alloc (w := ((w1.alloc o1).alloc o2).drewN n) (hc3 o1 o2) o3; have hf := fun o1 o2 n => blk_frozen (alloc_new_at (w := ((w1.alloc o1).alloc o2).drewN n) (o := .cells #[.int .i64 2, .int .i64 0, .int .i64 0, .string (⟨#[]⟩ : ByteArray)] 30 (0, 0)) (g := w1.heap.size + 1 + 1) (by simp)) 3; have hx := fun o1 o2 n => (blk_cell (alloc_new_at (w := ((w1.alloc o1).alloc o2).drewN n) (o := .cells #[.int .i64 2, .int .i64 0, .int .i64 0, .string (⟨#[]⟩ : ByteArray)] 30 (0, 0)) (g := w1.heap.size + 1 + 1) (by simp)) 3).trans rfl; have hR := (hB.block w.heap.size (by simp)).trans (heap_alloc_new w _); have hR2 := Aside0.mk (fun o1 o2 => heap_alloc_old (heap_alloc_old hR o1) o2); have hsz := hB.size; replace hb := Aside0.mk hb; have hBw := Aside0.mk (((Below.refl w.heap.size w).alloc (Nat.le_refl _) _).trans (hB.mono (by simp))); replace hg := Aside0.mk hg; replace hsz := Aside0.mk hsz; clear hR hB))
  clear hc0 hc1 hc2 hc3 hI hS
  have hgg := (Array.getElem?_eq_some_iff.1 hb.out).1
  obtain ⟨ga, hga⟩ : ∃ ga, w1.heap.size + 1 + 1 = ga := ⟨_, rfl⟩
  rw [hga]
  have hga1 : w.heap.size ≤ ga := by have := hsz.out; simp at this; omega
  have hga2 : ga ≠ g := by omega
  have hga3 : ga ≠ w.heap.size := by have := hsz.out; simp at this; omega
  refine wp_at (fun w5 => w5.heap[w.heap.size]? = some (.cells #[.int .i64 0, .int .i64 0, .int .i64 0, .string (⟨#[]⟩ : ByteArray)] 30 (0, 0)) ∧ w5.heap[ga]? = some (.cells #[.int .i64 2, .int .i64 0, .int .i64 0, .string (⟨#[]⟩ : ByteArray)] 30 (0, 0)) ∧ w5.heap[g]? = some (.cells #[.string k0, .string x1, .string x2, .string ⟨#[]⟩] 9 (0, 0)) ∧ Below w.heap.size w w5) ⟨?_, ?_, ?_, ?_⟩ ?_
  · exact heap_alloc_old (blk_drewN (hR2.out _ _) _) _
  · exact alloc_new_at (by simp [hga])
  · exact heap_alloc_old (blk_drewN (heap_alloc_old (heap_alloc_old hb.out _) _) _) _
  · repeat (first | exact hBw.out | apply below_alloc | apply pw_below_drewN)
  clear hd hf hx
  clear hga hgg hb hR2 hBw hsz hg
  rintro w5 ⟨hr, ha, hw, hb⟩
  refine wp_loop_rounds 1 ?_
  have hc := blk_cell hw 1
  replace hc := hc.trans rfl
  rw [rounds_succ]
  go_wp2_with (go_at_call 49; refine (impl_readNumber.calls _ _ _ _ (HG.out.below hb) hn0.out).mono ?_; rintro e w6 ⟨rfl, hB⟩; have ra := ((blk_cell (kb hB ha) 1)).trans rfl; have fa := blk_frozen (kb hB ha) 1; replace hr := kb hB hr; obtain ⟨f0, f1, f2, f3⟩ := frz4 hr; obtain ⟨r0, r1, r2, r3⟩ := cells4 hr)
  refine bodyPost_ret (results_ct rfl _ _ w.heap.size 30 #[.int .i64 0, .int .i64 0, .int .i64 0, .string (⟨#[]⟩ : ByteArray)] (0, 0) _ rfl ?hblk Tryd.underlying30 rfl (by kernel_rfl)) rfl ?_
  case hblk =>
    exact put4 hr
  refine ⟨rfl, ?_⟩
  replace hb := hb.trans (hB.mono hb.size)
  repeat (first | exact hb | refine below_set ?_ (Nat.le_refl _))
set_option maxHeartbeats 8000000 in
set_option maxRecDepth 100000 in
theorem readDeed_amendE_1 (a0 : ByteArray) (w : World) (hG : Glob w) (hs : a0.size < 4294967281) (k0 x1 x2 : ByteArray) (hk : wordsOf a0 = [k0, x1, x2, ⟨#[]⟩]) (hj : kindIdx k0 = 2) (n0 n1 : Int) (hn0 : impl_readNumber.f x1 = some (n0, true)) (hn1 : impl_readNumber.f x2 = some (n1, false)) :
    Calls Tryd.prog 33 #[.string a0] w fun e w' => e = .returned (.tuple #[.agg #[.int .i64 0, .int .i64 0, .int .i64 0, .string (⟨#[]⟩ : ByteArray)], .bool false]) ∧ Below w.heap.size w w' := by
  have hS := splitWords hs hk
  simp only [List.length_cons, List.length_nil, Nat.zero_add, Nat.reduceAdd, List.map_cons, List.map_nil] at hS
  have hI := idxRow k0
  rw [hj] at hI
  have HG := Aside0.mk hG
  replace hn0 := Aside0.mk hn0
  replace hn1 := Aside0.mk hn1
  clear hG hj hs hk
  go_enter Tryd.func33, Tryd.ntmps33
  go_wp2_with (first | (go_at_call 48; refine (hI _ _ _ (heap_alloc_old (heap_alloc_new _ _) _) (Nat.le_refl _)).mono ?_; rintro e w2 ⟨rfl, ⟨nd, rfl⟩⟩) | (go_at_call 47; refine (hS _ (HG.out.below ((Below.refl _ _).alloc (Nat.le_refl _) _))).mono ?_; rintro e w1 ⟨g, rfl, hb, hg, hB⟩; have hc0 := ca2 ((blk_cell hb 0).trans rfl); have hc1 := ca2 ((blk_cell hb 1).trans rfl); have hc2 := ca2 ((blk_cell hb 2).trans rfl); have hc3 := ca2 ((blk_cell hb 3).trans rfl); have hd := fun o1 o2 n o3 => cell_alloc (w := ((w1.alloc o1).alloc o2).drewN n) (hc3 o1 o2) o3; have hf := fun o1 o2 n => blk_frozen (alloc_new_at (w := ((w1.alloc o1).alloc o2).drewN n) (o := .cells #[.int .i64 2, .int .i64 0, .int .i64 0, .string (⟨#[]⟩ : ByteArray)] 30 (0, 0)) (g := w1.heap.size + 1 + 1) (by simp)) 3; have hx := fun o1 o2 n => (blk_cell (alloc_new_at (w := ((w1.alloc o1).alloc o2).drewN n) (o := .cells #[.int .i64 2, .int .i64 0, .int .i64 0, .string (⟨#[]⟩ : ByteArray)] 30 (0, 0)) (g := w1.heap.size + 1 + 1) (by simp)) 3).trans rfl; have hR := (hB.block w.heap.size (by simp)).trans (heap_alloc_new w _); have hR2 := Aside0.mk (fun o1 o2 => heap_alloc_old (heap_alloc_old hR o1) o2); have hsz := hB.size; replace hb := Aside0.mk hb; have hBw := Aside0.mk (((Below.refl w.heap.size w).alloc (Nat.le_refl _) _).trans (hB.mono (by simp))); replace hg := Aside0.mk hg; replace hsz := Aside0.mk hsz; clear hR hB))
  clear hc0 hc1 hc2 hc3 hI hS
  have hgg := (Array.getElem?_eq_some_iff.1 hb.out).1
  obtain ⟨ga, hga⟩ : ∃ ga, w1.heap.size + 1 + 1 = ga := ⟨_, rfl⟩
  rw [hga]
  have hga1 : w.heap.size ≤ ga := by have := hsz.out; simp at this; omega
  have hga2 : ga ≠ g := by omega
  have hga3 : ga ≠ w.heap.size := by have := hsz.out; simp at this; omega
  refine wp_at (fun w5 => w5.heap[w.heap.size]? = some (.cells #[.int .i64 0, .int .i64 0, .int .i64 0, .string (⟨#[]⟩ : ByteArray)] 30 (0, 0)) ∧ w5.heap[ga]? = some (.cells #[.int .i64 2, .int .i64 0, .int .i64 0, .string (⟨#[]⟩ : ByteArray)] 30 (0, 0)) ∧ w5.heap[g]? = some (.cells #[.string k0, .string x1, .string x2, .string ⟨#[]⟩] 9 (0, 0)) ∧ Below w.heap.size w w5) ⟨?_, ?_, ?_, ?_⟩ ?_
  · exact heap_alloc_old (blk_drewN (hR2.out _ _) _) _
  · exact alloc_new_at (by simp [hga])
  · exact heap_alloc_old (blk_drewN (heap_alloc_old (heap_alloc_old hb.out _) _) _) _
  · repeat (first | exact hBw.out | apply below_alloc | apply pw_below_drewN)
  clear hd hf hx
  clear hga hgg hb hR2 hBw hsz hg
  rintro w5 ⟨hr, ha, hw, hb⟩
  refine wp_loop_rounds 2 ?_
  have hc := blk_cell hw 1
  replace hc := hc.trans rfl
  rw [rounds_succ]
  go_wp2_with (go_at_call 49; refine (impl_readNumber.calls _ _ _ _ (HG.out.below hb) hn0.out).mono ?_; rintro e w6 ⟨rfl, hB⟩; have ra := ((blk_cell (kb hB ha) 1)).trans rfl; have fa := blk_frozen (kb hB ha) 1; replace hr := kb hB hr; obtain ⟨f0, f1, f2, f3⟩ := frz4 hr; obtain ⟨r0, r1, r2, r3⟩ := cells4 hr)
  refine rounds_at (fun w5 => w5.heap[w.heap.size]? = some (.cells #[.int .i64 0, .int .i64 0, .int .i64 0, .string (⟨#[]⟩ : ByteArray)] 30 (0, 0)) ∧ w5.heap[ga]? = some (.cells #[.int .i64 2, .int .i64 n0, .int .i64 0, .string (⟨#[]⟩ : ByteArray)] 30 (0, 0)) ∧ w5.heap[g]? = some (.cells #[.string k0, .string x1, .string x2, .string ⟨#[]⟩] 9 (0, 0)) ∧ Below w.heap.size w w5) ⟨?_, ?_, ?_, ?_⟩ ?_
  · exact blk_far hr (fun h => hga3 h.symm) _
  · exact blk_put (kb hB ha) 1 _ rfl
  · exact blk_far (kb hB hw) (fun h => hga2 h.symm) _
  · exact (hb.trans (hB.mono hb.size)).setCell hga1 _
  clear ra fa f0 f1 f2 f3 r0 r1 r2 r3 hc hB hr ha hw hb
  rintro w5 ⟨hr, ha, hw, hb⟩
  have hc := blk_cell hw 2
  replace hc := hc.trans rfl
  rw [rounds_succ]
  go_wp2_with (go_at_call 49; refine (impl_readNumber.calls _ _ _ _ (HG.out.below hb) hn1.out).mono ?_; rintro e w6 ⟨rfl, hB⟩; have ra := ((blk_cell (kb hB ha) 2)).trans rfl; have fa := blk_frozen (kb hB ha) 2; replace hr := kb hB hr; obtain ⟨f0, f1, f2, f3⟩ := frz4 hr; obtain ⟨r0, r1, r2, r3⟩ := cells4 hr)
  refine bodyPost_ret (results_ct rfl _ _ w.heap.size 30 #[.int .i64 0, .int .i64 0, .int .i64 0, .string (⟨#[]⟩ : ByteArray)] (0, 0) _ rfl ?hblk Tryd.underlying30 rfl (by kernel_rfl)) rfl ?_
  case hblk =>
    exact put4 hr
  refine ⟨rfl, ?_⟩
  replace hb := hb.trans (hB.mono hb.size)
  repeat (first | exact hb | refine below_set ?_ (Nat.le_refl _))
set_option maxHeartbeats 8000000 in
set_option maxRecDepth 100000 in
theorem readDeed_amendE_2 (a0 : ByteArray) (w : World) (hG : Glob w) (hs : a0.size < 4294967281) (k0 x1 x2 : ByteArray) (hk : wordsOf a0 = [k0, x1, x2, ⟨#[]⟩]) (hj : kindIdx k0 = 2) (n0 n1 n2 : Int) (hn0 : impl_readNumber.f x1 = some (n0, true)) (hn1 : impl_readNumber.f x2 = some (n1, true)) (hn2 : impl_readNumber.f ⟨#[]⟩ = some (n2, false)) :
    Calls Tryd.prog 33 #[.string a0] w fun e w' => e = .returned (.tuple #[.agg #[.int .i64 0, .int .i64 0, .int .i64 0, .string (⟨#[]⟩ : ByteArray)], .bool false]) ∧ Below w.heap.size w w' := by
  have hS := splitWords hs hk
  simp only [List.length_cons, List.length_nil, Nat.zero_add, Nat.reduceAdd, List.map_cons, List.map_nil] at hS
  have hI := idxRow k0
  rw [hj] at hI
  have HG := Aside0.mk hG
  replace hn0 := Aside0.mk hn0
  replace hn1 := Aside0.mk hn1
  replace hn2 := Aside0.mk hn2
  clear hG hj hs hk
  go_enter Tryd.func33, Tryd.ntmps33
  go_wp2_with (first | (go_at_call 48; refine (hI _ _ _ (heap_alloc_old (heap_alloc_new _ _) _) (Nat.le_refl _)).mono ?_; rintro e w2 ⟨rfl, ⟨nd, rfl⟩⟩) | (go_at_call 47; refine (hS _ (HG.out.below ((Below.refl _ _).alloc (Nat.le_refl _) _))).mono ?_; rintro e w1 ⟨g, rfl, hb, hg, hB⟩; have hc0 := ca2 ((blk_cell hb 0).trans rfl); have hc1 := ca2 ((blk_cell hb 1).trans rfl); have hc2 := ca2 ((blk_cell hb 2).trans rfl); have hc3 := ca2 ((blk_cell hb 3).trans rfl); have hd := fun o1 o2 n o3 => cell_alloc (w := ((w1.alloc o1).alloc o2).drewN n) (hc3 o1 o2) o3; have hf := fun o1 o2 n => blk_frozen (alloc_new_at (w := ((w1.alloc o1).alloc o2).drewN n) (o := .cells #[.int .i64 2, .int .i64 0, .int .i64 0, .string (⟨#[]⟩ : ByteArray)] 30 (0, 0)) (g := w1.heap.size + 1 + 1) (by simp)) 3; have hx := fun o1 o2 n => (blk_cell (alloc_new_at (w := ((w1.alloc o1).alloc o2).drewN n) (o := .cells #[.int .i64 2, .int .i64 0, .int .i64 0, .string (⟨#[]⟩ : ByteArray)] 30 (0, 0)) (g := w1.heap.size + 1 + 1) (by simp)) 3).trans rfl; have hR := (hB.block w.heap.size (by simp)).trans (heap_alloc_new w _); have hR2 := Aside0.mk (fun o1 o2 => heap_alloc_old (heap_alloc_old hR o1) o2); have hsz := hB.size; replace hb := Aside0.mk hb; have hBw := Aside0.mk (((Below.refl w.heap.size w).alloc (Nat.le_refl _) _).trans (hB.mono (by simp))); replace hg := Aside0.mk hg; replace hsz := Aside0.mk hsz; clear hR hB))
  clear hc0 hc1 hc2 hc3 hI hS
  have hgg := (Array.getElem?_eq_some_iff.1 hb.out).1
  obtain ⟨ga, hga⟩ : ∃ ga, w1.heap.size + 1 + 1 = ga := ⟨_, rfl⟩
  rw [hga]
  have hga1 : w.heap.size ≤ ga := by have := hsz.out; simp at this; omega
  have hga2 : ga ≠ g := by omega
  have hga3 : ga ≠ w.heap.size := by have := hsz.out; simp at this; omega
  refine wp_at (fun w5 => w5.heap[w.heap.size]? = some (.cells #[.int .i64 0, .int .i64 0, .int .i64 0, .string (⟨#[]⟩ : ByteArray)] 30 (0, 0)) ∧ w5.heap[ga]? = some (.cells #[.int .i64 2, .int .i64 0, .int .i64 0, .string (⟨#[]⟩ : ByteArray)] 30 (0, 0)) ∧ w5.heap[g]? = some (.cells #[.string k0, .string x1, .string x2, .string ⟨#[]⟩] 9 (0, 0)) ∧ Below w.heap.size w w5) ⟨?_, ?_, ?_, ?_⟩ ?_
  · exact heap_alloc_old (blk_drewN (hR2.out _ _) _) _
  · exact alloc_new_at (by simp [hga])
  · exact heap_alloc_old (blk_drewN (heap_alloc_old (heap_alloc_old hb.out _) _) _) _
  · repeat (first | exact hBw.out | apply below_alloc | apply pw_below_drewN)
  clear hd hf hx
  clear hga hgg hb hR2 hBw hsz hg
  rintro w5 ⟨hr, ha, hw, hb⟩
  refine wp_loop_rounds 3 ?_
  have hc := blk_cell hw 1
  replace hc := hc.trans rfl
  rw [rounds_succ]
  go_wp2_with (go_at_call 49; refine (impl_readNumber.calls _ _ _ _ (HG.out.below hb) hn0.out).mono ?_; rintro e w6 ⟨rfl, hB⟩; have ra := ((blk_cell (kb hB ha) 1)).trans rfl; have fa := blk_frozen (kb hB ha) 1; replace hr := kb hB hr; obtain ⟨f0, f1, f2, f3⟩ := frz4 hr; obtain ⟨r0, r1, r2, r3⟩ := cells4 hr)
  refine rounds_at (fun w5 => w5.heap[w.heap.size]? = some (.cells #[.int .i64 0, .int .i64 0, .int .i64 0, .string (⟨#[]⟩ : ByteArray)] 30 (0, 0)) ∧ w5.heap[ga]? = some (.cells #[.int .i64 2, .int .i64 n0, .int .i64 0, .string (⟨#[]⟩ : ByteArray)] 30 (0, 0)) ∧ w5.heap[g]? = some (.cells #[.string k0, .string x1, .string x2, .string ⟨#[]⟩] 9 (0, 0)) ∧ Below w.heap.size w w5) ⟨?_, ?_, ?_, ?_⟩ ?_
  · exact blk_far hr (fun h => hga3 h.symm) _
  · exact blk_put (kb hB ha) 1 _ rfl
  · exact blk_far (kb hB hw) (fun h => hga2 h.symm) _
  · exact (hb.trans (hB.mono hb.size)).setCell hga1 _
  clear ra fa f0 f1 f2 f3 r0 r1 r2 r3 hc hB hr ha hw hb
  rintro w5 ⟨hr, ha, hw, hb⟩
  have hc := blk_cell hw 2
  replace hc := hc.trans rfl
  rw [rounds_succ]
  go_wp2_with (go_at_call 49; refine (impl_readNumber.calls _ _ _ _ (HG.out.below hb) hn1.out).mono ?_; rintro e w6 ⟨rfl, hB⟩; have ra := ((blk_cell (kb hB ha) 2)).trans rfl; have fa := blk_frozen (kb hB ha) 2; replace hr := kb hB hr; obtain ⟨f0, f1, f2, f3⟩ := frz4 hr; obtain ⟨r0, r1, r2, r3⟩ := cells4 hr)
  refine rounds_at (fun w5 => w5.heap[w.heap.size]? = some (.cells #[.int .i64 0, .int .i64 0, .int .i64 0, .string (⟨#[]⟩ : ByteArray)] 30 (0, 0)) ∧ w5.heap[ga]? = some (.cells #[.int .i64 2, .int .i64 n0, .int .i64 n1, .string (⟨#[]⟩ : ByteArray)] 30 (0, 0)) ∧ w5.heap[g]? = some (.cells #[.string k0, .string x1, .string x2, .string ⟨#[]⟩] 9 (0, 0)) ∧ Below w.heap.size w w5) ⟨?_, ?_, ?_, ?_⟩ ?_
  · exact blk_far hr (fun h => hga3 h.symm) _
  · exact blk_put (kb hB ha) 2 _ rfl
  · exact blk_far (kb hB hw) (fun h => hga2 h.symm) _
  · exact (hb.trans (hB.mono hb.size)).setCell hga1 _
  clear ra fa f0 f1 f2 f3 r0 r1 r2 r3 hc hB hr ha hw hb
  rintro w5 ⟨hr, ha, hw, hb⟩
  have hc := blk_cell hw 3
  replace hc := hc.trans rfl
  rw [rounds_succ]
  go_wp2_with (go_at_call 49; refine (impl_readNumber.calls _ _ _ _ (HG.out.below hb) hn2.out).mono ?_; rintro e w6 ⟨rfl, hB⟩; have ra := ((blk_cell (kb hB ha) 2)).trans rfl; have fa := blk_frozen (kb hB ha) 2; replace hr := kb hB hr; obtain ⟨f0, f1, f2, f3⟩ := frz4 hr; obtain ⟨r0, r1, r2, r3⟩ := cells4 hr)
  refine bodyPost_ret (results_ct rfl _ _ w.heap.size 30 #[.int .i64 0, .int .i64 0, .int .i64 0, .string (⟨#[]⟩ : ByteArray)] (0, 0) _ rfl ?hblk Tryd.underlying30 rfl (by kernel_rfl)) rfl ?_
  case hblk =>
    exact put4 hr
  refine ⟨rfl, ?_⟩
  replace hb := hb.trans (hB.mono hb.size)
  repeat (first | exact hb | refine below_set ?_ (Nat.le_refl _))
set_option maxHeartbeats 8000000 in
set_option maxRecDepth 100000 in
theorem readDeed_amendW_0 (a0 : ByteArray) (w : World) (hG : Glob w) (hs : a0.size < 4294967281) (k0 x1 x2 x3 : ByteArray) (hk : wordsOf a0 = [k0, x1, x2, x3]) (hj : kindIdx k0 = 2) (hz : x3.toList.isEmpty = false) (n0 : Int) (hn0 : impl_readNumber.f x1 = some (n0, false)) :
    Calls Tryd.prog 33 #[.string a0] w fun e w' => e = .returned (.tuple #[.agg #[.int .i64 0, .int .i64 0, .int .i64 0, .string (⟨#[]⟩ : ByteArray)], .bool false]) ∧ Below w.heap.size w w' := by
  have hS := splitWords hs hk
  simp only [List.length_cons, List.length_nil, Nat.zero_add, Nat.reduceAdd, List.map_cons, List.map_nil] at hS
  have hI := idxRow k0
  rw [hj] at hI
  have HG := Aside0.mk hG
  replace hn0 := Aside0.mk hn0
  clear hG hj hs hk
  go_enter Tryd.func33, Tryd.ntmps33
  go_wp2_with (first | (go_at_call 48; refine (hI _ _ _ (heap_alloc_old (heap_alloc_new _ _) _) (Nat.le_refl _)).mono ?_; rintro e w2 ⟨rfl, ⟨nd, rfl⟩⟩) | (go_at_call 47; refine (hS _ (HG.out.below ((Below.refl _ _).alloc (Nat.le_refl _) _))).mono ?_; rintro e w1 ⟨g, rfl, hb, hg, hB⟩; have hc0 := ca2 ((blk_cell hb 0).trans rfl); have hc1 := ca2 ((blk_cell hb 1).trans rfl); have hc2 := ca2 ((blk_cell hb 2).trans rfl); have hc3 := ca2 ((blk_cell hb 3).trans rfl); have hd := fun o1 o2 n o3 => cell_alloc (w := ((w1.alloc o1).alloc o2).drewN n) (hc3 o1 o2) o3; have hf := fun o1 o2 n => blk_frozen (alloc_new_at (w := ((w1.alloc o1).alloc o2).drewN n) (o := .cells #[.int .i64 2, .int .i64 0, .int .i64 0, .string (⟨#[]⟩ : ByteArray)] 30 (0, 0)) (g := w1.heap.size + 1 + 1) (by simp)) 3; have hx := fun o1 o2 n => (blk_cell (alloc_new_at (w := ((w1.alloc o1).alloc o2).drewN n) (o := .cells #[.int .i64 2, .int .i64 0, .int .i64 0, .string (⟨#[]⟩ : ByteArray)] 30 (0, 0)) (g := w1.heap.size + 1 + 1) (by simp)) 3).trans rfl; have hR := (hB.block w.heap.size (by simp)).trans (heap_alloc_new w _); have hR2 := Aside0.mk (fun o1 o2 => heap_alloc_old (heap_alloc_old hR o1) o2); have hsz := hB.size; replace hb := Aside0.mk hb; have hBw := Aside0.mk (((Below.refl w.heap.size w).alloc (Nat.le_refl _) _).trans (hB.mono (by simp))); replace hg := Aside0.mk hg; replace hsz := Aside0.mk hsz; clear hR hB))
  clear hc0 hc1 hc2 hc3 hI hS
  have hgg := (Array.getElem?_eq_some_iff.1 hb.out).1
  obtain ⟨ga, hga⟩ : ∃ ga, w1.heap.size + 1 + 1 = ga := ⟨_, rfl⟩
  rw [hga]
  have hga1 : w.heap.size ≤ ga := by have := hsz.out; simp at this; omega
  have hga2 : ga ≠ g := by omega
  have hga3 : ga ≠ w.heap.size := by have := hsz.out; simp at this; omega
  refine wp_at (fun w5 => w5.heap[w.heap.size]? = some (.cells #[.int .i64 0, .int .i64 0, .int .i64 0, .string (⟨#[]⟩ : ByteArray)] 30 (0, 0)) ∧ w5.heap[ga]? = some (.cells #[.int .i64 2, .int .i64 0, .int .i64 0, .string x3] 30 (0, 0)) ∧ w5.heap[g]? = some (.cells #[.string k0, .string x1, .string x2, .string x3] 9 (0, 0)) ∧ Below w.heap.size w w5) ⟨?_, ?_, ?_, ?_⟩ ?_
  · exact heap_alloc_old (blk_drewN (hR2.out _ _) _) _
  · exact alloc_new_at (by simp [hga])
  · exact heap_alloc_old (blk_drewN (heap_alloc_old (heap_alloc_old hb.out _) _) _) _
  · repeat (first | exact hBw.out | apply below_alloc | apply pw_below_drewN)
  clear hd hf hx
  clear hga hgg hb hR2 hBw hsz hg
  rintro w5 ⟨hr, ha, hw, hb⟩
  refine wp_loop_rounds 1 ?_
  have hc := blk_cell hw 1
  replace hc := hc.trans rfl
  rw [rounds_succ]
  go_wp2_with (go_at_call 49; refine (impl_readNumber.calls _ _ _ _ (HG.out.below hb) hn0.out).mono ?_; rintro e w6 ⟨rfl, hB⟩; have ra := ((blk_cell (kb hB ha) 1)).trans rfl; have fa := blk_frozen (kb hB ha) 1; replace hr := kb hB hr; obtain ⟨f0, f1, f2, f3⟩ := frz4 hr; obtain ⟨r0, r1, r2, r3⟩ := cells4 hr)
  refine bodyPost_ret (results_ct rfl _ _ w.heap.size 30 #[.int .i64 0, .int .i64 0, .int .i64 0, .string (⟨#[]⟩ : ByteArray)] (0, 0) _ rfl ?hblk Tryd.underlying30 rfl (by kernel_rfl)) rfl ?_
  case hblk =>
    exact put4 hr
  refine ⟨rfl, ?_⟩
  replace hb := hb.trans (hB.mono hb.size)
  repeat (first | exact hb | refine below_set ?_ (Nat.le_refl _))
set_option maxHeartbeats 8000000 in
set_option maxRecDepth 100000 in
theorem readDeed_amendW_1 (a0 : ByteArray) (w : World) (hG : Glob w) (hs : a0.size < 4294967281) (k0 x1 x2 x3 : ByteArray) (hk : wordsOf a0 = [k0, x1, x2, x3]) (hj : kindIdx k0 = 2) (hz : x3.toList.isEmpty = false) (n0 n1 : Int) (hn0 : impl_readNumber.f x1 = some (n0, true)) (hn1 : impl_readNumber.f x2 = some (n1, false)) :
    Calls Tryd.prog 33 #[.string a0] w fun e w' => e = .returned (.tuple #[.agg #[.int .i64 0, .int .i64 0, .int .i64 0, .string (⟨#[]⟩ : ByteArray)], .bool false]) ∧ Below w.heap.size w w' := by
  have hS := splitWords hs hk
  simp only [List.length_cons, List.length_nil, Nat.zero_add, Nat.reduceAdd, List.map_cons, List.map_nil] at hS
  have hI := idxRow k0
  rw [hj] at hI
  have HG := Aside0.mk hG
  replace hn0 := Aside0.mk hn0
  replace hn1 := Aside0.mk hn1
  clear hG hj hs hk
  go_enter Tryd.func33, Tryd.ntmps33
  go_wp2_with (first | (go_at_call 48; refine (hI _ _ _ (heap_alloc_old (heap_alloc_new _ _) _) (Nat.le_refl _)).mono ?_; rintro e w2 ⟨rfl, ⟨nd, rfl⟩⟩) | (go_at_call 47; refine (hS _ (HG.out.below ((Below.refl _ _).alloc (Nat.le_refl _) _))).mono ?_; rintro e w1 ⟨g, rfl, hb, hg, hB⟩; have hc0 := ca2 ((blk_cell hb 0).trans rfl); have hc1 := ca2 ((blk_cell hb 1).trans rfl); have hc2 := ca2 ((blk_cell hb 2).trans rfl); have hc3 := ca2 ((blk_cell hb 3).trans rfl); have hd := fun o1 o2 n o3 => cell_alloc (w := ((w1.alloc o1).alloc o2).drewN n) (hc3 o1 o2) o3; have hf := fun o1 o2 n => blk_frozen (alloc_new_at (w := ((w1.alloc o1).alloc o2).drewN n) (o := .cells #[.int .i64 2, .int .i64 0, .int .i64 0, .string (⟨#[]⟩ : ByteArray)] 30 (0, 0)) (g := w1.heap.size + 1 + 1) (by simp)) 3; have hx := fun o1 o2 n => (blk_cell (alloc_new_at (w := ((w1.alloc o1).alloc o2).drewN n) (o := .cells #[.int .i64 2, .int .i64 0, .int .i64 0, .string (⟨#[]⟩ : ByteArray)] 30 (0, 0)) (g := w1.heap.size + 1 + 1) (by simp)) 3).trans rfl; have hR := (hB.block w.heap.size (by simp)).trans (heap_alloc_new w _); have hR2 := Aside0.mk (fun o1 o2 => heap_alloc_old (heap_alloc_old hR o1) o2); have hsz := hB.size; replace hb := Aside0.mk hb; have hBw := Aside0.mk (((Below.refl w.heap.size w).alloc (Nat.le_refl _) _).trans (hB.mono (by simp))); replace hg := Aside0.mk hg; replace hsz := Aside0.mk hsz; clear hR hB))
  clear hc0 hc1 hc2 hc3 hI hS
  have hgg := (Array.getElem?_eq_some_iff.1 hb.out).1
  obtain ⟨ga, hga⟩ : ∃ ga, w1.heap.size + 1 + 1 = ga := ⟨_, rfl⟩
  rw [hga]
  have hga1 : w.heap.size ≤ ga := by have := hsz.out; simp at this; omega
  have hga2 : ga ≠ g := by omega
  have hga3 : ga ≠ w.heap.size := by have := hsz.out; simp at this; omega
  refine wp_at (fun w5 => w5.heap[w.heap.size]? = some (.cells #[.int .i64 0, .int .i64 0, .int .i64 0, .string (⟨#[]⟩ : ByteArray)] 30 (0, 0)) ∧ w5.heap[ga]? = some (.cells #[.int .i64 2, .int .i64 0, .int .i64 0, .string x3] 30 (0, 0)) ∧ w5.heap[g]? = some (.cells #[.string k0, .string x1, .string x2, .string x3] 9 (0, 0)) ∧ Below w.heap.size w w5) ⟨?_, ?_, ?_, ?_⟩ ?_
  · exact heap_alloc_old (blk_drewN (hR2.out _ _) _) _
  · exact alloc_new_at (by simp [hga])
  · exact heap_alloc_old (blk_drewN (heap_alloc_old (heap_alloc_old hb.out _) _) _) _
  · repeat (first | exact hBw.out | apply below_alloc | apply pw_below_drewN)
  clear hd hf hx
  clear hga hgg hb hR2 hBw hsz hg
  rintro w5 ⟨hr, ha, hw, hb⟩
  refine wp_loop_rounds 2 ?_
  have hc := blk_cell hw 1
  replace hc := hc.trans rfl
  rw [rounds_succ]
  go_wp2_with (go_at_call 49; refine (impl_readNumber.calls _ _ _ _ (HG.out.below hb) hn0.out).mono ?_; rintro e w6 ⟨rfl, hB⟩; have ra := ((blk_cell (kb hB ha) 1)).trans rfl; have fa := blk_frozen (kb hB ha) 1; replace hr := kb hB hr; obtain ⟨f0, f1, f2, f3⟩ := frz4 hr; obtain ⟨r0, r1, r2, r3⟩ := cells4 hr)
  refine rounds_at (fun w5 => w5.heap[w.heap.size]? = some (.cells #[.int .i64 0, .int .i64 0, .int .i64 0, .string (⟨#[]⟩ : ByteArray)] 30 (0, 0)) ∧ w5.heap[ga]? = some (.cells #[.int .i64 2, .int .i64 n0, .int .i64 0, .string x3] 30 (0, 0)) ∧ w5.heap[g]? = some (.cells #[.string k0, .string x1, .string x2, .string x3] 9 (0, 0)) ∧ Below w.heap.size w w5) ⟨?_, ?_, ?_, ?_⟩ ?_
  · exact blk_far hr (fun h => hga3 h.symm) _
  · exact blk_put (kb hB ha) 1 _ rfl
  · exact blk_far (kb hB hw) (fun h => hga2 h.symm) _
  · exact (hb.trans (hB.mono hb.size)).setCell hga1 _
  clear ra fa f0 f1 f2 f3 r0 r1 r2 r3 hc hB hr ha hw hb
  rintro w5 ⟨hr, ha, hw, hb⟩
  have hc := blk_cell hw 2
  replace hc := hc.trans rfl
  rw [rounds_succ]
  go_wp2_with (go_at_call 49; refine (impl_readNumber.calls _ _ _ _ (HG.out.below hb) hn1.out).mono ?_; rintro e w6 ⟨rfl, hB⟩; have ra := ((blk_cell (kb hB ha) 2)).trans rfl; have fa := blk_frozen (kb hB ha) 2; replace hr := kb hB hr; obtain ⟨f0, f1, f2, f3⟩ := frz4 hr; obtain ⟨r0, r1, r2, r3⟩ := cells4 hr)
  refine bodyPost_ret (results_ct rfl _ _ w.heap.size 30 #[.int .i64 0, .int .i64 0, .int .i64 0, .string (⟨#[]⟩ : ByteArray)] (0, 0) _ rfl ?hblk Tryd.underlying30 rfl (by kernel_rfl)) rfl ?_
  case hblk =>
    exact put4 hr
  refine ⟨rfl, ?_⟩
  replace hb := hb.trans (hB.mono hb.size)
  repeat (first | exact hb | refine below_set ?_ (Nat.le_refl _))
set_option maxHeartbeats 8000000 in
set_option maxRecDepth 100000 in
theorem readDeed_amendW_eq (a0 : ByteArray) (w : World) (hG : Glob w) (hs : a0.size < 4294967281) (k0 x1 x2 x3 : ByteArray) (hk : wordsOf a0 = [k0, x1, x2, x3]) (hj : kindIdx k0 = 2) (hz : x3.toList.isEmpty = false) (n0 n1 : Int) (hn0 : impl_readNumber.f x1 = some (n0, true)) (hn1 : impl_readNumber.f x2 = some (n1, true)) (t : ByteArray) (ht : impl_deedTextM.f 2 n0 n1 x3 = some t) (he : (t.toList == a0.toList) = true) :
    Calls Tryd.prog 33 #[.string a0] w fun e w' => e = .returned (.tuple #[.agg #[.int .i64 2, .int .i64 n0, .int .i64 n1, .string x3], .bool true]) ∧ Below w.heap.size w w' := by
  have hS := splitWords hs hk
  simp only [List.length_cons, List.length_nil, Nat.zero_add, Nat.reduceAdd, List.map_cons, List.map_nil] at hS
  have hI := idxRow k0
  rw [hj] at hI
  have HG := Aside0.mk hG
  replace hn0 := Aside0.mk hn0
  replace hn1 := Aside0.mk hn1
  replace ht := Aside0.mk ht
  clear hG hj hs hk
  go_enter Tryd.func33, Tryd.ntmps33
  go_wp2_with (first | (go_at_call 48; refine (hI _ _ _ (heap_alloc_old (heap_alloc_new _ _) _) (Nat.le_refl _)).mono ?_; rintro e w2 ⟨rfl, ⟨nd, rfl⟩⟩) | (go_at_call 47; refine (hS _ (HG.out.below ((Below.refl _ _).alloc (Nat.le_refl _) _))).mono ?_; rintro e w1 ⟨g, rfl, hb, hg, hB⟩; have hc0 := ca2 ((blk_cell hb 0).trans rfl); have hc1 := ca2 ((blk_cell hb 1).trans rfl); have hc2 := ca2 ((blk_cell hb 2).trans rfl); have hc3 := ca2 ((blk_cell hb 3).trans rfl); have hd := fun o1 o2 n o3 => cell_alloc (w := ((w1.alloc o1).alloc o2).drewN n) (hc3 o1 o2) o3; have hf := fun o1 o2 n => blk_frozen (alloc_new_at (w := ((w1.alloc o1).alloc o2).drewN n) (o := .cells #[.int .i64 2, .int .i64 0, .int .i64 0, .string (⟨#[]⟩ : ByteArray)] 30 (0, 0)) (g := w1.heap.size + 1 + 1) (by simp)) 3; have hx := fun o1 o2 n => (blk_cell (alloc_new_at (w := ((w1.alloc o1).alloc o2).drewN n) (o := .cells #[.int .i64 2, .int .i64 0, .int .i64 0, .string (⟨#[]⟩ : ByteArray)] 30 (0, 0)) (g := w1.heap.size + 1 + 1) (by simp)) 3).trans rfl; have hR := (hB.block w.heap.size (by simp)).trans (heap_alloc_new w _); have hR2 := Aside0.mk (fun o1 o2 => heap_alloc_old (heap_alloc_old hR o1) o2); have hsz := hB.size; replace hb := Aside0.mk hb; have hBw := Aside0.mk (((Below.refl w.heap.size w).alloc (Nat.le_refl _) _).trans (hB.mono (by simp))); replace hg := Aside0.mk hg; replace hsz := Aside0.mk hsz; clear hR hB))
  clear hc0 hc1 hc2 hc3 hI hS
  have hgg := (Array.getElem?_eq_some_iff.1 hb.out).1
  obtain ⟨ga, hga⟩ : ∃ ga, w1.heap.size + 1 + 1 = ga := ⟨_, rfl⟩
  rw [hga]
  have hga1 : w.heap.size ≤ ga := by have := hsz.out; simp at this; omega
  have hga2 : ga ≠ g := by omega
  have hga3 : ga ≠ w.heap.size := by have := hsz.out; simp at this; omega
  refine wp_at (fun w5 => w5.heap[w.heap.size]? = some (.cells #[.int .i64 0, .int .i64 0, .int .i64 0, .string (⟨#[]⟩ : ByteArray)] 30 (0, 0)) ∧ w5.heap[ga]? = some (.cells #[.int .i64 2, .int .i64 0, .int .i64 0, .string x3] 30 (0, 0)) ∧ w5.heap[g]? = some (.cells #[.string k0, .string x1, .string x2, .string x3] 9 (0, 0)) ∧ Below w.heap.size w w5) ⟨?_, ?_, ?_, ?_⟩ ?_
  · exact heap_alloc_old (blk_drewN (hR2.out _ _) _) _
  · exact alloc_new_at (by simp [hga])
  · exact heap_alloc_old (blk_drewN (heap_alloc_old (heap_alloc_old hb.out _) _) _) _
  · repeat (first | exact hBw.out | apply below_alloc | apply pw_below_drewN)
  clear hd hf hx
  clear hga hgg hb hR2 hBw hsz hg
  rintro w5 ⟨hr, ha, hw, hb⟩
  refine wp_loop_rounds 3 ?_
  have hc := blk_cell hw 1
  replace hc := hc.trans rfl
  rw [rounds_succ]
  go_wp2_with (go_at_call 49; refine (impl_readNumber.calls _ _ _ _ (HG.out.below hb) hn0.out).mono ?_; rintro e w6 ⟨rfl, hB⟩; have ra := ((blk_cell (kb hB ha) 1)).trans rfl; have fa := blk_frozen (kb hB ha) 1; replace hr := kb hB hr; obtain ⟨f0, f1, f2, f3⟩ := frz4 hr; obtain ⟨r0, r1, r2, r3⟩ := cells4 hr)
  refine rounds_at (fun w5 => w5.heap[w.heap.size]? = some (.cells #[.int .i64 0, .int .i64 0, .int .i64 0, .string (⟨#[]⟩ : ByteArray)] 30 (0, 0)) ∧ w5.heap[ga]? = some (.cells #[.int .i64 2, .int .i64 n0, .int .i64 0, .string x3] 30 (0, 0)) ∧ w5.heap[g]? = some (.cells #[.string k0, .string x1, .string x2, .string x3] 9 (0, 0)) ∧ Below w.heap.size w w5) ⟨?_, ?_, ?_, ?_⟩ ?_
  · exact blk_far hr (fun h => hga3 h.symm) _
  · exact blk_put (kb hB ha) 1 _ rfl
  · exact blk_far (kb hB hw) (fun h => hga2 h.symm) _
  · exact (hb.trans (hB.mono hb.size)).setCell hga1 _
  clear ra fa f0 f1 f2 f3 r0 r1 r2 r3 hc hB hr ha hw hb
  rintro w5 ⟨hr, ha, hw, hb⟩
  have hc := blk_cell hw 2
  replace hc := hc.trans rfl
  rw [rounds_succ]
  go_wp2_with (go_at_call 49; refine (impl_readNumber.calls _ _ _ _ (HG.out.below hb) hn1.out).mono ?_; rintro e w6 ⟨rfl, hB⟩; have ra := ((blk_cell (kb hB ha) 2)).trans rfl; have fa := blk_frozen (kb hB ha) 2; replace hr := kb hB hr; obtain ⟨f0, f1, f2, f3⟩ := frz4 hr; obtain ⟨r0, r1, r2, r3⟩ := cells4 hr)
  refine rounds_at (fun w5 => w5.heap[w.heap.size]? = some (.cells #[.int .i64 0, .int .i64 0, .int .i64 0, .string (⟨#[]⟩ : ByteArray)] 30 (0, 0)) ∧ w5.heap[ga]? = some (.cells #[.int .i64 2, .int .i64 n0, .int .i64 n1, .string x3] 30 (0, 0)) ∧ w5.heap[g]? = some (.cells #[.string k0, .string x1, .string x2, .string x3] 9 (0, 0)) ∧ Below w.heap.size w w5) ⟨?_, ?_, ?_, ?_⟩ ?_
  · exact blk_far hr (fun h => hga3 h.symm) _
  · exact blk_put (kb hB ha) 2 _ rfl
  · exact blk_far (kb hB hw) (fun h => hga2 h.symm) _
  · exact (hb.trans (hB.mono hb.size)).setCell hga1 _
  clear ra fa f0 f1 f2 f3 r0 r1 r2 r3 hc hB hr ha hw hb
  rintro w5 ⟨hr, ha, hw, hb⟩
  obtain ⟨q0, q1, q2, q3⟩ := cells4 ha
  rw [rounds_succ]
  go_wp2_with (go_at_call 29; refine (impl_deedTextM.calls _ _ _ _ _ _ ht.out).mono ?_; rintro e w6 ⟨rfl, hB⟩; obtain ⟨b0, b1, b2, b3⟩ := cells4 (kb hB ha); replace hr := kb hB hr; obtain ⟨f0, f1, f2, f3⟩ := frz4 hr; obtain ⟨r0, r1, r2, r3⟩ := cells4 hr)
  refine bodyPost_ret (results_ct rfl _ _ w.heap.size 30 #[.int .i64 2, .int .i64 n0, .int .i64 n1, .string x3] (0, 0) _ rfl ?hblk Tryd.underlying30 rfl (by kernel_rfl)) rfl ?_
  case hblk =>
    exact put4 hr
  refine ⟨rfl, ?_⟩
  replace hb := hb.trans (hB.mono hb.size)
  repeat (first | exact hb | refine below_set ?_ (Nat.le_refl _))
set_option maxHeartbeats 8000000 in
set_option maxRecDepth 100000 in
theorem readDeed_amendW_ne (a0 : ByteArray) (w : World) (hG : Glob w) (hs : a0.size < 4294967281) (k0 x1 x2 x3 : ByteArray) (hk : wordsOf a0 = [k0, x1, x2, x3]) (hj : kindIdx k0 = 2) (hz : x3.toList.isEmpty = false) (n0 n1 : Int) (hn0 : impl_readNumber.f x1 = some (n0, true)) (hn1 : impl_readNumber.f x2 = some (n1, true)) (t : ByteArray) (ht : impl_deedTextM.f 2 n0 n1 x3 = some t) (he : (t.toList == a0.toList) = false) :
    Calls Tryd.prog 33 #[.string a0] w fun e w' => e = .returned (.tuple #[.agg #[.int .i64 0, .int .i64 0, .int .i64 0, .string (⟨#[]⟩ : ByteArray)], .bool false]) ∧ Below w.heap.size w w' := by
  have hS := splitWords hs hk
  simp only [List.length_cons, List.length_nil, Nat.zero_add, Nat.reduceAdd, List.map_cons, List.map_nil] at hS
  have hI := idxRow k0
  rw [hj] at hI
  have HG := Aside0.mk hG
  replace hn0 := Aside0.mk hn0
  replace hn1 := Aside0.mk hn1
  replace ht := Aside0.mk ht
  clear hG hj hs hk
  go_enter Tryd.func33, Tryd.ntmps33
  go_wp2_with (first | (go_at_call 48; refine (hI _ _ _ (heap_alloc_old (heap_alloc_new _ _) _) (Nat.le_refl _)).mono ?_; rintro e w2 ⟨rfl, ⟨nd, rfl⟩⟩) | (go_at_call 47; refine (hS _ (HG.out.below ((Below.refl _ _).alloc (Nat.le_refl _) _))).mono ?_; rintro e w1 ⟨g, rfl, hb, hg, hB⟩; have hc0 := ca2 ((blk_cell hb 0).trans rfl); have hc1 := ca2 ((blk_cell hb 1).trans rfl); have hc2 := ca2 ((blk_cell hb 2).trans rfl); have hc3 := ca2 ((blk_cell hb 3).trans rfl); have hd := fun o1 o2 n o3 => cell_alloc (w := ((w1.alloc o1).alloc o2).drewN n) (hc3 o1 o2) o3; have hf := fun o1 o2 n => blk_frozen (alloc_new_at (w := ((w1.alloc o1).alloc o2).drewN n) (o := .cells #[.int .i64 2, .int .i64 0, .int .i64 0, .string (⟨#[]⟩ : ByteArray)] 30 (0, 0)) (g := w1.heap.size + 1 + 1) (by simp)) 3; have hx := fun o1 o2 n => (blk_cell (alloc_new_at (w := ((w1.alloc o1).alloc o2).drewN n) (o := .cells #[.int .i64 2, .int .i64 0, .int .i64 0, .string (⟨#[]⟩ : ByteArray)] 30 (0, 0)) (g := w1.heap.size + 1 + 1) (by simp)) 3).trans rfl; have hR := (hB.block w.heap.size (by simp)).trans (heap_alloc_new w _); have hR2 := Aside0.mk (fun o1 o2 => heap_alloc_old (heap_alloc_old hR o1) o2); have hsz := hB.size; replace hb := Aside0.mk hb; have hBw := Aside0.mk (((Below.refl w.heap.size w).alloc (Nat.le_refl _) _).trans (hB.mono (by simp))); replace hg := Aside0.mk hg; replace hsz := Aside0.mk hsz; clear hR hB))
  clear hc0 hc1 hc2 hc3 hI hS
  have hgg := (Array.getElem?_eq_some_iff.1 hb.out).1
  obtain ⟨ga, hga⟩ : ∃ ga, w1.heap.size + 1 + 1 = ga := ⟨_, rfl⟩
  rw [hga]
  have hga1 : w.heap.size ≤ ga := by have := hsz.out; simp at this; omega
  have hga2 : ga ≠ g := by omega
  have hga3 : ga ≠ w.heap.size := by have := hsz.out; simp at this; omega
  refine wp_at (fun w5 => w5.heap[w.heap.size]? = some (.cells #[.int .i64 0, .int .i64 0, .int .i64 0, .string (⟨#[]⟩ : ByteArray)] 30 (0, 0)) ∧ w5.heap[ga]? = some (.cells #[.int .i64 2, .int .i64 0, .int .i64 0, .string x3] 30 (0, 0)) ∧ w5.heap[g]? = some (.cells #[.string k0, .string x1, .string x2, .string x3] 9 (0, 0)) ∧ Below w.heap.size w w5) ⟨?_, ?_, ?_, ?_⟩ ?_
  · exact heap_alloc_old (blk_drewN (hR2.out _ _) _) _
  · exact alloc_new_at (by simp [hga])
  · exact heap_alloc_old (blk_drewN (heap_alloc_old (heap_alloc_old hb.out _) _) _) _
  · repeat (first | exact hBw.out | apply below_alloc | apply pw_below_drewN)
  clear hd hf hx
  clear hga hgg hb hR2 hBw hsz hg
  rintro w5 ⟨hr, ha, hw, hb⟩
  refine wp_loop_rounds 3 ?_
  have hc := blk_cell hw 1
  replace hc := hc.trans rfl
  rw [rounds_succ]
  go_wp2_with (go_at_call 49; refine (impl_readNumber.calls _ _ _ _ (HG.out.below hb) hn0.out).mono ?_; rintro e w6 ⟨rfl, hB⟩; have ra := ((blk_cell (kb hB ha) 1)).trans rfl; have fa := blk_frozen (kb hB ha) 1; replace hr := kb hB hr; obtain ⟨f0, f1, f2, f3⟩ := frz4 hr; obtain ⟨r0, r1, r2, r3⟩ := cells4 hr)
  refine rounds_at (fun w5 => w5.heap[w.heap.size]? = some (.cells #[.int .i64 0, .int .i64 0, .int .i64 0, .string (⟨#[]⟩ : ByteArray)] 30 (0, 0)) ∧ w5.heap[ga]? = some (.cells #[.int .i64 2, .int .i64 n0, .int .i64 0, .string x3] 30 (0, 0)) ∧ w5.heap[g]? = some (.cells #[.string k0, .string x1, .string x2, .string x3] 9 (0, 0)) ∧ Below w.heap.size w w5) ⟨?_, ?_, ?_, ?_⟩ ?_
  · exact blk_far hr (fun h => hga3 h.symm) _
  · exact blk_put (kb hB ha) 1 _ rfl
  · exact blk_far (kb hB hw) (fun h => hga2 h.symm) _
  · exact (hb.trans (hB.mono hb.size)).setCell hga1 _
  clear ra fa f0 f1 f2 f3 r0 r1 r2 r3 hc hB hr ha hw hb
  rintro w5 ⟨hr, ha, hw, hb⟩
  have hc := blk_cell hw 2
  replace hc := hc.trans rfl
  rw [rounds_succ]
  go_wp2_with (go_at_call 49; refine (impl_readNumber.calls _ _ _ _ (HG.out.below hb) hn1.out).mono ?_; rintro e w6 ⟨rfl, hB⟩; have ra := ((blk_cell (kb hB ha) 2)).trans rfl; have fa := blk_frozen (kb hB ha) 2; replace hr := kb hB hr; obtain ⟨f0, f1, f2, f3⟩ := frz4 hr; obtain ⟨r0, r1, r2, r3⟩ := cells4 hr)
  refine rounds_at (fun w5 => w5.heap[w.heap.size]? = some (.cells #[.int .i64 0, .int .i64 0, .int .i64 0, .string (⟨#[]⟩ : ByteArray)] 30 (0, 0)) ∧ w5.heap[ga]? = some (.cells #[.int .i64 2, .int .i64 n0, .int .i64 n1, .string x3] 30 (0, 0)) ∧ w5.heap[g]? = some (.cells #[.string k0, .string x1, .string x2, .string x3] 9 (0, 0)) ∧ Below w.heap.size w w5) ⟨?_, ?_, ?_, ?_⟩ ?_
  · exact blk_far hr (fun h => hga3 h.symm) _
  · exact blk_put (kb hB ha) 2 _ rfl
  · exact blk_far (kb hB hw) (fun h => hga2 h.symm) _
  · exact (hb.trans (hB.mono hb.size)).setCell hga1 _
  clear ra fa f0 f1 f2 f3 r0 r1 r2 r3 hc hB hr ha hw hb
  rintro w5 ⟨hr, ha, hw, hb⟩
  obtain ⟨q0, q1, q2, q3⟩ := cells4 ha
  rw [rounds_succ]
  go_wp2_with (go_at_call 29; refine (impl_deedTextM.calls _ _ _ _ _ _ ht.out).mono ?_; rintro e w6 ⟨rfl, hB⟩; obtain ⟨b0, b1, b2, b3⟩ := cells4 (kb hB ha); replace hr := kb hB hr; obtain ⟨f0, f1, f2, f3⟩ := frz4 hr; obtain ⟨r0, r1, r2, r3⟩ := cells4 hr)
  refine bodyPost_ret (results_ct rfl _ _ w.heap.size 30 #[.int .i64 0, .int .i64 0, .int .i64 0, .string (⟨#[]⟩ : ByteArray)] (0, 0) _ rfl ?hblk Tryd.underlying30 rfl (by kernel_rfl)) rfl ?_
  case hblk =>
    exact put4 hr
  refine ⟨rfl, ?_⟩
  replace hb := hb.trans (hB.mono hb.size)
  repeat (first | exact hb | refine below_set ?_ (Nat.le_refl _))
end Go.Proofs.YtnkfbappnpnaoaaDoor.Q
