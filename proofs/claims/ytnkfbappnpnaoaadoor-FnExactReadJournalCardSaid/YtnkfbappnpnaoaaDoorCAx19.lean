/- A part of this claim's proof: functions of the program as plain functions, with the proof that the code comes to their answers, and facts about them. Condition: none of its own. -/
import Derived.Deep.DeepFit
import Derived.Deep.LoopGhost
import Derived.Outline
import Derived.Test.YtnkfbappnpnaoaaDoorCAx1
import Derived.Test.YtnkfbappnpnaoaaDoorCAx11
import Derived.Test.YtnkfbappnpnaoaaDoorCAx2
import Derived.Test.YtnkfbappnpnaoaaDoorCAx4
import Derived.Test.YtnkfbappnpnaoaaDoorCAx16
import Derived.Test.YtnkfbappnpnaoaaDoorCAx17
import Derived.Test.YtnkfbappnpnaoaaDoorCAx18
namespace Go.Proofs.YtnkfbappnpnaoaaDoor.Q
open Go.RowKit Go.Proofs.YtnkfbappnpnaoaaDoorW.PrintWords Go.Proofs.YtnkfbappnpnaoaaDoorW.PrintLast Go.Proofs.YtnkfbappnpnaoaaDoorW.PrintMore
attribute [local go_sem] max2_int min2_int max_two min_two max_three min_three max_four min_four   -- for this text's walks alone
set_option linter.unusedVariables false
set_option linter.unusedSimpArgs false

def wordsOf (s : ByteArray) : List ByteArray := Lib.splitB ⟨#[32]⟩ 0 (Lib.countB s ⟨#[32]⟩) s
def kindsL : List ByteArray := [⟨#[98, 111, 100, 121]⟩, ⟨#[114, 117, 108, 101]⟩, ⟨#[97, 109, 101, 110, 100]⟩, ⟨#[100, 114, 111, 112]⟩, ⟨#[98, 97, 99, 107]⟩]
def countsL : List Int := [2, 2, 4, 3, 1]
def kindIdx (k : ByteArray) : Int := if k.toList = [98, 111, 100, 121] then 0 else if k.toList = [114, 117, 108, 101] then 1 else if k.toList = [97, 109, 101, 110, 100] then 2 else if k.toList = [100, 114, 111, 112] then 3 else if k.toList = [98, 97, 99, 107] then 4 else -1
theorem kindIdx_range (k : ByteArray) : -1 ≤ kindIdx k ∧ kindIdx k ≤ 4 := by
  unfold kindIdx
  repeat' split
  all_goals omega
theorem kindIdx_eq (k : ByteArray) : slices_Index_string_string.f 7 kindsL k = some (kindIdx k) := by
  unfold slices_Index_string_string.f kindIdx
  simp only [kindsL, slices_Index_string_string.l0, rdOf, show wrap64 (0 + 1) = 1 from w64 _ (by decide) (by decide), show wrap64 (1 + 1) = 2 from w64 _ (by decide) (by decide), show wrap64 (2 + 1) = 3 from w64 _ (by decide) (by decide), show wrap64 (3 + 1) = 4 from w64 _ (by decide) (by decide), show wrap64 (4 + 1) = 5 from w64 _ (by decide) (by decide)]
  simp only [List.length_cons, List.length_nil, List.getD_cons_zero, List.getD_cons_succ, Int.toNat_zero, Lib.toList_data, show Int.toNat 1 = 0 + 1 from rfl, show Int.toNat 2 = 1 + 1 from rfl, show Int.toNat 3 = 2 + 1 from rfl, show Int.toNat 4 = 3 + 1 from rfl]
  simp
  repeat' split
  all_goals rfl
/-- The numbers of a deed's text, one behind the other: none where one is none. -/
def numLoop : List ByteArray → Nat → Int → Int → Option (Option (Int × Int))
  | [], _, a, b => some (some (a, b))
  | x :: xs, i, a, b => (impl_readNumber.f x).bind fun p => if p.2 = true then (if i = 0 then numLoop xs (i + 1) p.1 b else numLoop xs (i + 1) a p.1) else some none
def deedNone : Option (Int × Int × Int × ByteArray × Bool) := some (0, 0, 0, ⟨#[]⟩, false)
def deedFin (s : ByteArray) (k a b : Int) (z : ByteArray) : Option (Int × Int × Int × ByteArray × Bool) :=
  (impl_deedTextM.f k a b z).bind fun t => if t.toList = s.toList then some (k, a, b, z, true) else deedNone
def deedRest (s : ByteArray) (nums : List ByteArray) (k : Int) (z : ByteArray) : Option (Int × Int × Int × ByteArray × Bool) :=
  (numLoop nums 0 0 0).bind fun r => match r with
    | none => deedNone
    | some (a, b) => deedFin s k a b z
def deedOf (s : ByteArray) (ws : List ByteArray) : Option (Int × Int × Int × ByteArray × Bool) :=
  if kindIdx (ws.getD 0 ByteArray.empty) < 0 then deedNone
  else if (ws.length : Int) = countsL.getD (kindIdx (ws.getD 0 ByteArray.empty)).toNat 0 then
    (if kindIdx (ws.getD 0 ByteArray.empty) = 1 ∨ kindIdx (ws.getD 0 ByteArray.empty) = 2 then
      (if (ws.getD (ws.length - 1) ByteArray.empty).toList = [] then deedRest s (ws.drop 1) (kindIdx (ws.getD 0 ByteArray.empty)) ⟨#[]⟩
       else deedRest s ((ws.drop 1).dropLast) (kindIdx (ws.getD 0 ByteArray.empty)) (ws.getD (ws.length - 1) ByteArray.empty))
     else deedRest s (ws.drop 1) (kindIdx (ws.getD 0 ByteArray.empty)) ⟨#[]⟩)
  else deedNone
def impl_readDeed.f (a0 : ByteArray) : Option (Int × Int × Int × ByteArray × Bool) := if a0.size < 4294967281 then deedOf a0 (wordsOf a0) else none
theorem splitRow (a0 a1 : ByteArray) (w : World) (hG : Glob w) (hs : a0.size < 4294967281) (h1 : 1 ≤ a1.size) :
    Calls Tryd.prog 47 #[.string a0, .string a1] w fun e w' => ∃ g, e = .returned (.slice (some ⟨g, 0, none⟩) (Lib.splitB a1 0 (Lib.countB a0 a1) a0).length (Lib.splitB a1 0 (Lib.countB a0 a1) a0).length) ∧
      w'.heap[g]? = some (.cells ((Lib.splitB a1 0 (Lib.countB a0 a1) a0).map Value.string).toArray 9 (0, 0)) ∧ w.heap.size ≤ g ∧ Below w.heap.size w w' := by
  refine (strings_Split.row a0 a1 w hG hs h1).mono ?_
  rintro e w' ⟨rfl, rfl⟩
  exact ⟨_, rfl, heap_alloc_new w _, Nat.le_refl _, (Below.refl _ _).alloc (Nat.le_refl _) _⟩
theorem block_reads {w : World} {g : Nat} {xs : List ByteArray} {t : Nat} (h : w.heap[g]? = some (.cells (xs.map Value.string).toArray t (0, 0))) (hl : xs.length ≤ 9223372036854775807) : ReadsOf Value.string ByteArray.empty w (some ⟨g, 0, none⟩) xs.length xs := by
  refine ⟨rfl, hl, fun hn => ⟨_, rfl, fun j hj => ?_⟩⟩
  rw [show (⟨g, 0, none⟩ : Addr).add j = ⟨g, j, none⟩ by simp [Addr.add]; omega, blk_cell h j]
  simp [List.getElem?_eq_getElem hj, List.getD_eq_getElem?_getD]
theorem splitB_ne (a0 a1 : ByteArray) (h1 : 1 ≤ a1.size) : 0 < (Lib.splitB a1 0 (Lib.countB a0 a1) a0).length := by
  rw [Lib.splitB_all a1 h1 0 _ a0 rfl]
  omega
theorem idxRow (k0 : ByteArray) (w : World) (g c : Nat) (hb : w.heap[g]? = some (.cells (kindsL.map Value.string).toArray 9 (0, 0))) (hc : 5 ≤ c) :
    Calls Tryd.prog 48 #[.slice (some ⟨g, 0, none⟩) 5 c, .string k0] w fun e w' => e = .returned (.int .i64 (kindIdx k0)) ∧ Drawn0 w w' :=
  slices_Index_string_string.calls 7 (some ⟨g, 0, none⟩) c kindsL k0 _ w (Kd.C_of_reads (block_reads hb (by decide))) hc (kindIdx_eq k0)
set_option maxHeartbeats 4000000 in
set_option maxRecDepth 100000 in
theorem readDeed_neg (a0 : ByteArray) (w : World) (hG : Glob w) (hs : a0.size < 4294967281) (k0 : ByteArray) (hk : (wordsOf a0)[0]? = some k0) (hj : kindIdx k0 < 0) :
    Calls Tryd.prog 33 #[.string a0] w fun e w' => e = .returned (.tuple #[.agg #[.int .i64 0, .int .i64 0, .int .i64 0, .string ⟨#[]⟩], .bool false]) ∧ Below w.heap.size w w' := by
  have hS := fun w hG => splitRow a0 ⟨#[32]⟩ w hG hs (by decide)
  have hn := splitB_ne a0 ⟨#[32]⟩ (by decide)
  change ∀ w hG, Calls _ _ _ w fun e w' => ∃ g, e = .returned (.slice (some ⟨g, 0, none⟩) (wordsOf a0).length (wordsOf a0).length) ∧ w'.heap[g]? = some (.cells ((wordsOf a0).map Value.string).toArray 9 (0, 0)) ∧ w.heap.size ≤ g ∧ Below w.heap.size w w' at hS
  change 0 < (wordsOf a0).length at hn
  generalize wordsOf a0 = ws at hS hn hk
  have hI := idxRow k0
  obtain ⟨j, hjk⟩ : ∃ j, kindIdx k0 = j := ⟨_, rfl⟩
  rw [hjk] at hj hI
  have HG := Aside0.mk hG
  clear hG hjk hs
  go_enter Tryd.func33, Tryd.ntmps33
  go_wp2_with (first | (go_at_call 48; go_fit (hI _ _ _ (heap_alloc_old (heap_alloc_new _ _) _) (Nat.le_refl _)); rintro e w2 ⟨rfl, ⟨nd, rfl⟩⟩) | (go_at_call 47; refine (hS _ (HG.out.below ((Below.refl _ _).alloc (Nat.le_refl _) _))).mono ?_; rintro e w1 ⟨g, rfl, hb, hg, hB⟩; have hc00 : w1.cell? ⟨g, 0, none⟩ = some (.string k0) := (blk_cell hb 0).trans (by simp [hk]); have hc0 := fun o1 o2 => cell_alloc (cell_alloc hc00 o1) o2; clear hc00; have hR := (hB.block w.heap.size (by simp)).trans (heap_alloc_new w _); have hR2 := fun o1 o2 => heap_alloc_old (heap_alloc_old hR o1) o2; have r0 := fun o1 o2 => blk_cell (hR2 o1 o2) 0; have r1 := fun o1 o2 => blk_cell (hR2 o1 o2) 1; have r2 := fun o1 o2 => blk_cell (hR2 o1 o2) 2; have r3 := fun o1 o2 => blk_cell (hR2 o1 o2) 3; have f0 := fun o1 o2 => blk_frozen (hR2 o1 o2) 0; have f1 := fun o1 o2 => blk_frozen (hR2 o1 o2) 1; have f2 := fun o1 o2 => blk_frozen (hR2 o1 o2) 2; have f3 := fun o1 o2 => blk_frozen (hR2 o1 o2) 3; dsimp at r0 r1 r2 r3; replace hR2 := Aside0.mk hR2; have hBw := Aside0.mk (((Below.refl w.heap.size w).alloc (Nat.le_refl _) _).trans (hB.mono (by simp))); clear hR hB))
  refine bodyPost_ret (results_ct rfl _ _ w.heap.size 30 #[.int .i64 0, .int .i64 0, .int .i64 0, .string (⟨#[]⟩ : ByteArray)] (0, 0) _ rfl ?hblk Tryd.underlying30 rfl (by kernel_rfl)) rfl ?_
  case hblk =>
    refine blk_put (cs := #[.int .i64 0, .int .i64 0, .int .i64 0, .string (⟨#[]⟩ : ByteArray)]) ?_ 3 _ rfl
    refine blk_put (cs := #[.int .i64 0, .int .i64 0, .int .i64 0, .string (⟨#[]⟩ : ByteArray)]) ?_ 2 _ rfl
    refine blk_put (cs := #[.int .i64 0, .int .i64 0, .int .i64 0, .string (⟨#[]⟩ : ByteArray)]) ?_ 1 _ rfl
    refine blk_put (cs := #[.int .i64 0, .int .i64 0, .int .i64 0, .string (⟨#[]⟩ : ByteArray)]) ?_ 0 _ rfl
    exact blk_drewN (hR2.out _ _) _
  refine ⟨rfl, ?_⟩
  repeat (first | exact hBw.out | apply below_alloc | apply pw_below_drewN | refine below_set ?_ (Nat.le_refl _))
end Go.Proofs.YtnkfbappnpnaoaaDoor.Q
