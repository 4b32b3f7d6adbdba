/- A part of this claim's proof: functions of the program as plain functions, with the proof that the code comes to their answers, and facts about them. Condition: none of its own. -/
import Derived.Lib.IndexLaws
import Derived.Test.YtnkfbappnpnaoaaDoorCJx1
import Derived.Test.YtnkfbappnpnaoaaDoorCJx16
import Derived.Test.YtnkfbappnpnaoaaDoorCJx3
import Derived.Test.YtnkfbappnpnaoaaDoorCJx7
import Derived.Test.YtnkfbappnpnaoaaDoorCJx6
import Derived.Test.YtnkfbappnpnaoaaDoorCJx5
import Derived.Test.YtnkfbappnpnaoaaDoorCJx13
import Derived.Test.YtnkfbappnpnaoaaDoorCJx15
import Derived.Test.YtnkfbappnpnaoaaDoorCJz
namespace Go.Proofs.YtnkfbappnpnaoaaDoor.Q
open Go.RowKit Go.Proofs.YtnkfbappnpnaoaaDoorW.PrintWords Go.Proofs.YtnkfbappnpnaoaaDoorW.PrintLast Go.Proofs.YtnkfbappnpnaoaaDoorW.PrintMore
attribute [local go_sem] max2_int min2_int max_two min_two max_three min_three max_four min_four   -- for this text's walks alone
set_option linter.unusedVariables false
set_option linter.unusedSimpArgs false
def impl_readJournal.l0 : Nat → ByteArray → List (S30) → Int → Option ((List (S30)) × Int)
  | 0, _, _, _ => none
  | k + 1, x0, x4, x5 => if 0 ≤ x5 then (if x5 ≤ (x0.size : Int) then ((strings_Cut.f (x0.extract (x5 : Int).toNat x0.size) (⟨#[10]⟩ : ByteArray)).bind fun bt175 => ((impl_readDeed.f bt175.1).bind fun bt178 => (if bt175.2.2 = true then (if bt178.2.2.2.2 = true then (if x4.length < 3518437208883 then (impl_readJournal.l0 k x0 (x4 ++ [(⟨bt178.1, bt178.2.1, bt178.2.2.1, bt178.2.2.2.1⟩ : S30)]) (wrap64 (x5 + (wrap64 ((bt175.1.size : Int) + 1))))) else (none)) else (some (x4, x5))) else (some (x4, x5))))) else (none)) else (none)
def impl_readJournal.f (k : Nat) (a0 : ByteArray) : Option ((List (S30)) × Int) := impl_readJournal.l0 k a0 (([] : List (S30))) 0
set_option maxHeartbeats 8000000 in
set_option maxRecDepth 100000 in
theorem impl_readJournal.calls (k : Nat) (a0 : ByteArray) (r1 : List (S30)) (r2 : Int) (w : World) (hG : Glob w) (h : impl_readJournal.f k a0 = some (r1, r2)) :
    Calls Tryd.prog 23 #[.string a0] w fun e w' => ∃ v0_ : Value, e = .returned (.tuple #[v0_, .int .i64 r2]) ∧ Kd.R k30 30 w' w.heap.size (fun _ => True) v0_ r1 ∧ Below w.heap.size w w' := by
 have HG := Aside0.mk hG
 clear hG
 have hu30 := Tryd.underlying30
 have HB := Aside0.mk (Below.refl w.heap.size w)
 have H : (impl_readJournal.l0 k a0 (([] : List (S30))) 0) = some (r1, r2) := h
 clear h
 obtain ⟨y172, hy172⟩ : ∃ y_ : List (S30), y_ = (([] : List (S30))) := ⟨_, rfl⟩
 replace H : (impl_readJournal.l0 k a0 y172 0) = some (r1, r2) := by first | (rw [hy172]; with_reducible exact H) | (have H2_ := (Option.bind_some _ _).symm.trans H; rw [hy172]; with_reducible exact H2_) | (have H2_ := (Option.bind_some _ _).symm.trans H; with_reducible exact H2_) | with_reducible exact H | (rw [hy172]; exact H) | exact H
 have Ny172 := Aside0.mk hy172
 clear hy172
 have H' := Aside0.mk H
 clear H
 go_enter Tryd.func23, Tryd.ntmps23
 go_wp2_with (first | ((with_reducible refine gate_dst (N := 11) rfl ?_); refine Kd.R_lit k30 _ 30 ?hg (N := 11) ?hd (xs := ([] : List (S30))) (inner := []) (ok := fun _ => True) (okp := fun _ => True) ?hr ?hp (fun _ hk => hk) trivial (Below.refl _ _) (Nat.le_refl _) (by simp) ?_; (case hd => rfl); (case hg => rfl); (case hr => exact zcj_12); (case hp => exact (Reps.none _ _)); intro v173 w2 ho3 hb hg_ hnew_; clear hg_ hnew_; (first | rw [← Ny172.out] at ho3 | (simp only [Int.reduceToNat] at ho3; rw [← Ny172.out] at ho3)); have n0_ := Aside0.mk (Kd.R_lower ho3 (below_size zcj_5)); have n1_ := Aside0.mk (below_step zcj_5 hb); clear HB; have HO174 := n0_; have HB := n1_; clear n0_ n1_; clear hb ho3))
 go_loopg [4, 5] k (fun kq v4 v5 w' => ∃ (x4_1 : List (S30)) (x5_1 : Int), v5 = .int .i64 x5_1 ∧ Aside0 (impl_readJournal.l0 kq a0 x4_1 x5_1 = some (r1, r2)) ∧ Aside0 (kq ≤ k) ∧ Aside0 (Kd.R k30 30 w' w.heap.size (fun _ => True) v4 x4_1) ∧ Aside0 (Below w.heap.size w w'))
 case atStart => exact ⟨(y172), (0), zcj_4, H', ⟨Nat.le_refl _⟩, ⟨by (with_reducible repeat (first | apply Kd.R_alloc | apply Kd.R_drewN | apply Kd.R_drew)); exact HO174.out⟩, ⟨zcj_5⟩⟩
 case round =>(
 clear H'
 try clear c2
 try clear p2
 obtain ⟨x4_1, x5_1, rfl, HA, HK1, HO_4, HB⟩ := hrel
 cases gk with
 | zero => exact absurd HA.out (by simp [impl_readJournal.l0])
 | succ k1 =>(
 have H := HA.out
 clear HA
 simp only [impl_readJournal.l0] at H
 by_cases c4 : 0 ≤ x5_1
 {
 rw [if_pos c4] at H
 have c4b0 := eq_true c4
 have c4b1 : decide (0 ≤ x5_1) = true := decide_eq_true c4
 clear c4
 by_cases c5 : x5_1 ≤ (a0.size : Int)
 {
 rw [if_pos c5] at H
 have c5b0 := eq_true c5
 have c5b1 : decide (x5_1 ≤ (a0.size : Int)) = true := decide_eq_true c5
 clear c5
 replace H := Option.bind_eq_some_iff.mp H
 obtain ⟨⟨t175, t176, t177⟩, A60, H⟩ := H
 try dsimp only at H
 have A6 := Aside0.mk A60
 clear A60
 replace H := Option.bind_eq_some_iff.mp H
 obtain ⟨⟨t178, t179, t180, t181, t182⟩, A70, H⟩ := H
 try dsimp only at H
 have A7 := Aside0.mk A70
 clear A70
 by_cases c8 : t177 = true
 {
 subst c8
 rw [if_pos rfl] at H
 by_cases c9 : t182 = true
 {
 subst c9
 rw [if_pos rfl] at H
 by_cases c10 : x4_1.length < 3518437208883
 {
 rw [if_pos c10] at H
 have LMc10 := Aside0.mk c10
 clear c10
 obtain ⟨y184, hy184⟩ : ∃ y_ : List (S30), y_ = (x4_1 ++ [(⟨t178, t179, t180, t181⟩ : S30)]) := ⟨_, rfl⟩
 replace H : (impl_readJournal.l0 k1 a0 y184 (wrap64 (x5_1 + (wrap64 ((t175.size : Int) + 1))))) = some (r1, r2) := by first | (rw [hy184]; with_reducible exact H) | (have H2_ := (Option.bind_some _ _).symm.trans H; rw [hy184]; with_reducible exact H2_) | (have H2_ := (Option.bind_some _ _).symm.trans H; with_reducible exact H2_) | with_reducible exact H | (rw [hy184]; exact H) | exact H
 have Ny184 := Aside0.mk hy184
 clear hy184
 have H' := Aside0.mk H
 clear H
 go_wp2_with (first | ((with_reducible refine gate_callee (f := 40) rfl ?_); refine goesL_ (some 16) rfl rfl Tryd.func40 (by kernel_rfl) rfl #[.string (a0.extract (x5_1 : Int).toNat a0.size), .string (⟨#[10]⟩ : ByteArray)] rfl zcj_3 ?_; (with_reducible refine (strings_Cut.calls (a0.extract (x5_1 : Int).toNat a0.size) (⟨#[10]⟩ : ByteArray) t175 t176 true _ ?side1 A6.out).mono ?_); (case side1 => exact zcj_52); rintro e w' ⟨rfl, ⟨nd, rfl⟩⟩; refine ⟨_, rfl, ?_⟩; (try (rw [drewN_self wr]; generalize hq_ : World.drewN wr _ = wr; have n0_ : Aside0 (Kd.R k30 30 wr w.heap.size (fun _ => True) u4 x4_1) := ⟨zcj_121⟩; have n1_ : Aside0 (Below w.heap.size w wr) := ⟨zcj_122⟩; clear HO_4 HB hq_; have HO_4 := n0_; have HB := n1_; clear n0_ n1_))) | ((with_reducible refine gate_callee (f := 33) rfl ?_); refine goesL_ (some 22) rfl rfl Tryd.func33 (by kernel_rfl) rfl #[.string t175] rfl zcj_3 ?_; (with_reducible refine (impl_readDeed.calls t175 t178 t179 t180 t181 true _ ?side1 A7.out).mono ?_); (case side1 => exact zcj_52); rintro e w11 ⟨rfl, hb⟩; refine ⟨_, rfl, ?_⟩; refine zcj_f16 ?_; clear HO_4; clear HB; intro HO_4 HB; (try clear hb); (try clear hb2); (try clear hk); (try clear hi)) | ((with_reducible refine gate_dst (N := 9) rfl ?_); refine box_event ?hg (N := 9) ?hd (cs := #[.int .i64 0, .int .i64 0, .int .i64 0, .string (⟨#[]⟩ : ByteArray)]) (t := 30) ?hr ?_; (case hd => rfl); (case hg => rfl); (case hr => exact zcj_12); intro gb183 hg w12 hbox hb; refine zcj_f17 ?_; clear HO_4; clear HB; intro HO_4 HB BK183 GW183 GE183; clear hb hbox hg; have hcz13_0 : w12.cell? ⟨gb183, 0, none⟩ = some (.int .i64 0) := (blk_cell BK183.out 0).trans rfl; have hcz13_1 : w12.cell? ⟨gb183, 1, none⟩ = some (.int .i64 0) := (blk_cell BK183.out 1).trans rfl; have hcz13_2 : w12.cell? ⟨gb183, 2, none⟩ = some (.int .i64 0) := (blk_cell BK183.out 2).trans rfl; have hcz13_3 : w12.cell? ⟨gb183, 3, none⟩ = some (.string (⟨#[]⟩ : ByteArray)) := (blk_cell BK183.out 3).trans rfl; have hfz13_0 := blk_frozen BK183.out 0; have hfz13_1 := blk_frozen BK183.out 1; have hfz13_2 := blk_frozen BK183.out 2; have hfz13_3 := blk_frozen BK183.out 3) | ((with_reducible refine gate_builtin (b := .append) (xs := #[.tmp 33, .tmp 35]) rfl ?_); at_builtin; refine Kd.R_append k30 (w0 := w) w.heap.size rfl (.tmp 33) (.tmp 35) 22 30 (.agg #[(.int .i64 0), (.int .i64 0), (.int .i64 0), (.string ⟨#[]⟩)]) 40 rfl Tryd.underlying22 info30 rfl (by decide) (by omega) u4 x4_1 (⟨t178, t179, t180, t181⟩ : S30) [.int .i64 t178, .int .i64 t179, .int .i64 t180, .string t181] (fun k_ => k_ ≠ gb183) (fun _ => False) rfl zcj_12 ?aP (fun _ hk => hk.elim) ?aF ?aO ?aB ?aS ?aL ?_; (case aP => exact k30_mkM _ _ _ (⟨t178, t179, t180, t181⟩ : S30)); (case aB => exact zcj_89); (case aF => exact (fun k_ hk => Kd.freshB (g := gb183) (o := .cells #[.int .i64 t178, .int .i64 t179, .int .i64 t180, .string t181] 30 (0, 0)) zcj_169 k_ hk)); (case aO => exact (by (with_reducible repeat (first | apply Kd.R_alloc | apply Kd.R_drewN | apply Kd.R_drew)); exact Kd.R_mono (Kd.R_far (p := ⟨gb183, 3, none⟩) (Kd.R_far (p := ⟨gb183, 2, none⟩) (Kd.R_far (p := ⟨gb183, 1, none⟩) (Kd.R_far (p := ⟨gb183, 0, none⟩) (Kd.R_mono HO_4.out (fun k_ hk => (⟨hk, hk.2⟩ : _ ∧ k_ ≠ gb183))) (fun _ hk => hk.2) (.int .i64 t178)) (fun _ hk => hk.2) (.int .i64 t179)) (fun _ hk => hk.2) (.int .i64 t180)) (fun _ hk => hk.2) (.string t181)) (fun _ hk => hk.1.2))); (case aS => exact (below_size zcj_89)); (case aL => have := LMc10.out; omega); intro v185 w14 ho hb hg hat; rw [← Ny184.out] at ho; have n0_ := Aside0.mk (blk_grown (g := gb183) (o := .cells #[.int .i64 t178, .int .i64 t179, .int .i64 t180, .string t181] 30 (0, 0)) zcj_169 hg (Kd.R_away HO_4.out (fun _ hk => hk.2))); have n1_ := Aside0.mk (hb); have n2_ := Aside0.mk (ho); clear BK183; clear HB; clear HO_4; have BK183 := n0_; have HB := n1_; have HO186 := n2_; clear n0_ n1_ n2_; clear ho hb hg hat))
 go_roundg k1
 case measure => have := HK1.out; omega
 case rel => exact ⟨(y184), (wrap64 (x5_1 + (wrap64 ((t175.size : Int) + 1)))), zcj_4, H', ⟨by have := HK1.out; omega⟩, ⟨by (with_reducible repeat (first | apply Kd.R_alloc | apply Kd.R_drewN | apply Kd.R_drew)); exact Kd.R_mono HO186.out (fun _ hk => trivial)⟩, ⟨zcj_89⟩⟩
 }
 {
 rw [if_neg c10] at H
 exact absurd H (by simp)
 }
 }
 {
 replace c9 := Bool.eq_false_iff.mpr c9
 subst c9
 rw [if_neg (show ¬ (false = true) by decide)] at H
 simp only [Option.some.injEq, Prod.mk.injEq] at H
 obtain ⟨rfl, rfl⟩ := H
 go_wp2_with (first | ((with_reducible refine gate_callee (f := 40) rfl ?_); refine goesL_ (some 16) rfl rfl Tryd.func40 (by kernel_rfl) rfl #[.string (a0.extract (x5_1 : Int).toNat a0.size), .string (⟨#[10]⟩ : ByteArray)] rfl zcj_3 ?_; (with_reducible refine (strings_Cut.calls (a0.extract (x5_1 : Int).toNat a0.size) (⟨#[10]⟩ : ByteArray) t175 t176 true _ ?side1 A6.out).mono ?_); (case side1 => exact zcj_52); rintro e w' ⟨rfl, ⟨nd, rfl⟩⟩; refine ⟨_, rfl, ?_⟩; (try (rw [drewN_self wr]; generalize hq_ : World.drewN wr _ = wr; have n0_ : Aside0 (Kd.R k30 30 wr w.heap.size (fun _ => True) u4 x4_1) := ⟨zcj_121⟩; have n1_ : Aside0 (Below w.heap.size w wr) := ⟨zcj_122⟩; clear HO_4 HB hq_; have HO_4 := n0_; have HB := n1_; clear n0_ n1_))) | ((with_reducible refine gate_callee (f := 33) rfl ?_); refine goesL_ (some 22) rfl rfl Tryd.func33 (by kernel_rfl) rfl #[.string t175] rfl zcj_3 ?_; (with_reducible refine (impl_readDeed.calls t175 t178 t179 t180 t181 false _ ?side1 A7.out).mono ?_); (case side1 => exact zcj_52); rintro e w15 ⟨rfl, hb⟩; refine ⟨_, rfl, ?_⟩; refine zcj_f16 ?_; clear HO_4; clear HB; intro HO_4 HB; (try clear hb); (try clear hb2); (try clear hk); (try clear hi)) | ((with_reducible refine gate_dst (N := 9) rfl ?_); refine box_event ?hg (N := 9) ?hd (cs := #[.int .i64 0, .int .i64 0, .int .i64 0, .string (⟨#[]⟩ : ByteArray)]) (t := 30) ?hr ?_; (case hd => rfl); (case hg => rfl); (case hr => exact zcj_12); intro gb183 hg w16 hbox hb; refine zcj_f17 ?_; clear HO_4; clear HB; intro HO_4 HB BK183 GW183 GE183; clear hb hbox hg; have hcz17_0 : w16.cell? ⟨gb183, 0, none⟩ = some (.int .i64 0) := (blk_cell BK183.out 0).trans rfl; have hcz17_1 : w16.cell? ⟨gb183, 1, none⟩ = some (.int .i64 0) := (blk_cell BK183.out 1).trans rfl; have hcz17_2 : w16.cell? ⟨gb183, 2, none⟩ = some (.int .i64 0) := (blk_cell BK183.out 2).trans rfl; have hcz17_3 : w16.cell? ⟨gb183, 3, none⟩ = some (.string (⟨#[]⟩ : ByteArray)) := (blk_cell BK183.out 3).trans rfl; have hfz17_0 := blk_frozen BK183.out 0; have hfz17_1 := blk_frozen BK183.out 1; have hfz17_2 := blk_frozen BK183.out 2; have hfz17_3 := blk_frozen BK183.out 3))
 go_ret2
 exact ⟨_, zcj_13, zcj_170, zcj_89⟩
 }
 }
 {
 replace c8 := Bool.eq_false_iff.mpr c8
 subst c8
 rw [if_neg (show ¬ (false = true) by decide)] at H
 simp only [Option.some.injEq, Prod.mk.injEq] at H
 obtain ⟨rfl, rfl⟩ := H
 go_wp2_with (first | ((with_reducible refine gate_callee (f := 40) rfl ?_); refine goesL_ (some 16) rfl rfl Tryd.func40 (by kernel_rfl) rfl #[.string (a0.extract (x5_1 : Int).toNat a0.size), .string (⟨#[10]⟩ : ByteArray)] rfl zcj_3 ?_; (with_reducible refine (strings_Cut.calls (a0.extract (x5_1 : Int).toNat a0.size) (⟨#[10]⟩ : ByteArray) t175 t176 false _ ?side1 A6.out).mono ?_); (case side1 => exact zcj_52); rintro e w' ⟨rfl, ⟨nd, rfl⟩⟩; refine ⟨_, rfl, ?_⟩; (try (rw [drewN_self wr]; generalize hq_ : World.drewN wr _ = wr; have n0_ : Aside0 (Kd.R k30 30 wr w.heap.size (fun _ => True) u4 x4_1) := ⟨zcj_121⟩; have n1_ : Aside0 (Below w.heap.size w wr) := ⟨zcj_122⟩; clear HO_4 HB hq_; have HO_4 := n0_; have HB := n1_; clear n0_ n1_))) | ((with_reducible refine gate_callee (f := 33) rfl ?_); refine goesL_ (some 22) rfl rfl Tryd.func33 (by kernel_rfl) rfl #[.string t175] rfl zcj_3 ?_; (with_reducible refine (impl_readDeed.calls t175 t178 t179 t180 t181 t182 _ ?side1 A7.out).mono ?_); (case side1 => exact zcj_52); rintro e w18 ⟨rfl, hb⟩; refine ⟨_, rfl, ?_⟩; refine zcj_f16 ?_; clear HO_4; clear HB; intro HO_4 HB; (try clear hb); (try clear hb2); (try clear hk); (try clear hi)) | ((with_reducible refine gate_dst (N := 9) rfl ?_); refine box_event ?hg (N := 9) ?hd (cs := #[.int .i64 0, .int .i64 0, .int .i64 0, .string (⟨#[]⟩ : ByteArray)]) (t := 30) ?hr ?_; (case hd => rfl); (case hg => rfl); (case hr => exact zcj_12); intro gb183 hg w19 hbox hb; refine zcj_f17 ?_; clear HO_4; clear HB; intro HO_4 HB BK183 GW183 GE183; clear hb hbox hg; have hcz20_0 : w19.cell? ⟨gb183, 0, none⟩ = some (.int .i64 0) := (blk_cell BK183.out 0).trans rfl; have hcz20_1 : w19.cell? ⟨gb183, 1, none⟩ = some (.int .i64 0) := (blk_cell BK183.out 1).trans rfl; have hcz20_2 : w19.cell? ⟨gb183, 2, none⟩ = some (.int .i64 0) := (blk_cell BK183.out 2).trans rfl; have hcz20_3 : w19.cell? ⟨gb183, 3, none⟩ = some (.string (⟨#[]⟩ : ByteArray)) := (blk_cell BK183.out 3).trans rfl; have hfz20_0 := blk_frozen BK183.out 0; have hfz20_1 := blk_frozen BK183.out 1; have hfz20_2 := blk_frozen BK183.out 2; have hfz20_3 := blk_frozen BK183.out 3))
 go_ret2
 exact ⟨_, zcj_13, zcj_170, zcj_89⟩
 }
 }
 {
 rw [if_neg c5] at H
 exact absurd H (by simp)
 }
 }
 {
 rw [if_neg c4] at H
 exact absurd H (by simp)
 }
 )
 )
end Go.Proofs.YtnkfbappnpnaoaaDoor.Q
namespace Go.Proofs.YtnkfbappnpnaoaaDoor.Q
open Go.RowKit Go.Proofs.YtnkfbappnpnaoaaDoorW.PrintWords Go.Proofs.YtnkfbappnpnaoaaDoorW.PrintLast Go.Proofs.YtnkfbappnpnaoaaDoorW.PrintMore
attribute [local go_sem] max2_int min2_int max_two min_two max_three min_three max_four min_four   -- for this text's walks alone
set_option linter.unusedVariables false
set_option linter.unusedSimpArgs false
def impl_ReadJournal.f (k : Nat) (a0 : ByteArray) : Option ((List (S30)) × Int) := (impl_readJournal.f k a0).bind fun bt187 => (some (bt187.1, bt187.2))
set_option maxHeartbeats 8000000 in
set_option maxRecDepth 100000 in
theorem impl_ReadJournal.calls (k : Nat) (a0 : ByteArray) (r1 : List (S30)) (r2 : Int) (w : World) (hG : Glob w) (h : impl_ReadJournal.f k a0 = some (r1, r2)) :
    Calls Tryd.prog 8 #[.string a0] w fun e w' => ∃ v0_ : Value, e = .returned (.tuple #[v0_, .int .i64 r2]) ∧ Kd.R k30 30 w' w.heap.size (fun _ => True) v0_ r1 ∧ Below w.heap.size w w' := by
 have HG := Aside0.mk hG
 clear hG
 have HB := Aside0.mk (Below.refl w.heap.size w)
 have H : ((impl_readJournal.f k a0).bind fun bt187 => (some (bt187.1, bt187.2))) = some (r1, r2) := h
 clear h
 replace H := Option.bind_eq_some_iff.mp H
 obtain ⟨⟨t187, t188⟩, A20, H⟩ := H
 try dsimp only at H
 have A2 := Aside0.mk A20
 clear A20
 simp only [Option.some.injEq, Prod.mk.injEq] at H
 obtain ⟨rfl, rfl⟩ := H
 go_enter Tryd.func8, Tryd.ntmps8
 go_wp2_with (first | ((with_reducible refine gate_callee (f := 23) rfl ?_); refine goesL_ (some 5) rfl rfl Tryd.func23 (by kernel_rfl) rfl #[.string a0] rfl zcj_3 ?_; (with_reducible refine (impl_readJournal.calls k a0 t187 t188 _ ?side1 A2.out).mono ?_); (case side1 => exact zcj_52); rintro e w3 ⟨v189, rfl, ho0, hb⟩; refine ⟨_, rfl, ?_⟩; refine zcj_f5 ?_; clear HB; intro HO190 HB; (try clear hb); (try clear hb2); (try clear hk); (try clear hi); (try clear ho0)))
 go_ret2
 exact ⟨_, zcj_13, by (with_reducible repeat (first | apply Kd.R_alloc | apply Kd.R_drewN | apply Kd.R_drew)); exact HO190.out, zcj_5⟩
end Go.Proofs.YtnkfbappnpnaoaaDoor.Q
namespace Go.Proofs.YtnkfbappnpnaoaaDoor.Q
open Go.RowKit Go.Proofs.YtnkfbappnpnaoaaDoorW.PrintWords Go.Proofs.YtnkfbappnpnaoaaDoorW.PrintLast Go.Proofs.YtnkfbappnpnaoaaDoorW.PrintMore
attribute [local go_sem] max2_int min2_int max_two min_two max_three min_three max_four min_four   -- for this text's walks alone
set_option linter.unusedVariables false
set_option linter.unusedSimpArgs false
theorem wrA (o : Nat) (h : o < 1048577) : wrap64 ((o : Int) + 1) = (o : Int) + 1 := w64 _ (by omega) (by omega)
theorem wrB (a o : Nat) (h : a + o < 1048577) : wrap64 ((a : Int) + ((o : Int) + 1)) = ((a + o + 1 : Nat) : Int) := (w64 _ (by omega) (by omega)).trans (by omega)
def asS (R : D5) : S30 := ⟨R.1, R.2.1, R.2.2.1, R.2.2.2.1⟩
theorem cut_nl_none {l : List UInt8} (h : Lib.indexByte l 10 = -1) : Lib.cut l [10] = (l, [], false) := by
  unfold Lib.cut
  rw [index_one, h]
  rfl
theorem cut_nl_at {l : List UInt8} {o : Nat} (h : Lib.indexByte l 10 = o) : (Lib.cut l [10]).1 = l.take o ∧ (Lib.cut l [10]).2.2 = true := by
  unfold Lib.cut
  rw [index_one, h, if_pos (by omega)]
  simp
theorem cutf_none (t : ByteArray) (h : t.size < 4294967281) (l : List UInt8) (hl : t.data.toList = l) (hi : Lib.indexByte l 10 = -1) : strings_Cut.f t (⟨#[10]⟩ : ByteArray) = some (bs l, ⟨#[]⟩, false) := by
  unfold strings_Cut.f
  rw [if_pos h, hl, show (⟨#[10]⟩ : ByteArray).data.toList = [10] from rfl, cut_nl_none hi]
  rfl
theorem cutf_at (t : ByteArray) (h : t.size < 4294967281) (l : List UInt8) (hl : t.data.toList = l) {o : Nat} (hi : Lib.indexByte l 10 = o) : ∃ x, strings_Cut.f t (⟨#[10]⟩ : ByteArray) = some (bs (l.take o), x, true) := by
  unfold strings_Cut.f
  obtain ⟨c1, c2⟩ := cut_nl_at hi
  rw [if_pos h, hl, show (⟨#[10]⟩ : ByteArray).data.toList = [10] from rfl, c1, c2]
  exact ⟨_, rfl⟩
theorem extr_data (s : ByteArray) (fr : Nat) : (s.extract fr s.size).data.toList = s.toList.drop fr := by rw [← Lib.toList_data, ext_end]
theorem extr_size (s : ByteArray) (fr : Nat) : (s.extract fr s.size).size ≤ s.size := by rw [ByteArray.size_extract]; omega
theorem bs_drop_size (s : ByteArray) (fr : Nat) : (bs (s.toList.drop fr)).size ≤ s.size := by
  have : (bs (s.toList.drop fr)).size = (s.toList.drop fr).length := rfl
  rw [this, List.length_drop, toList_len]
  exact Nat.sub_le _ _
theorem impl_step_none (s : ByteArray) (hs : s.size ≤ 1048576) (out : List S30) (fr : Nat) (hf : fr ≤ s.size) (hi : Lib.indexByte (s.toList.drop fr) 10 = -1) (k : Nat) : impl_readJournal.l0 (k + 1) s out (fr : Int) = some (out, (fr : Int)) := by
  have h1 := extr_size s fr
  have h2 := bs_drop_size s fr
  obtain ⟨R1, hR1, _⟩ := readDeed_tot (bs (s.toList.drop fr)) (by omega)
  have hcut := cutf_none (s.extract fr s.size) (by omega) _ (extr_data s fr) hi
  rw [impl_readJournal.l0]
  rw [if_pos (by omega), if_pos (by omega), Int.toNat_natCast, hcut, Option.bind_some, hR1, Option.bind_some, if_neg Bool.false_ne_true]
theorem impl_step_at (s : ByteArray) (hs : s.size ≤ 1048576) (out : List S30) (fr o : Nat) (hlt : fr + o < s.size) (ho : out.length ≤ fr) (hi : Lib.indexByte (s.toList.drop fr) 10 = o) (R1 : D5) (hR1 : impl_readDeed.f (s.extract fr (fr + o)) = some R1) (k : Nat) :
    impl_readJournal.l0 (k + 1) s out (fr : Int) = if R1.2.2.2.2 = true then impl_readJournal.l0 k s (out ++ [asS R1]) ((fr + o + 1 : Nat) : Int) else some (out, (fr : Int)) := by
  have h1 := extr_size s fr
  have hline : bs ((s.toList.drop fr).take o) = s.extract fr (fr + o) := by
    apply toList_inj
    rw [bs_toList, ext_toList, List.drop_take]
    congr 1
    omega
  have hlsz : (s.extract fr (fr + o)).size = o := by rw [ByteArray.size_extract]; omega
  obtain ⟨x, hcut⟩ := cutf_at (s.extract fr s.size) (by omega) _ (extr_data s fr) hi
  rw [hline] at hcut
  rw [impl_readJournal.l0]
  rw [if_pos (by omega), if_pos (by omega), Int.toNat_natCast, hcut, Option.bind_some, hR1, Option.bind_some, if_pos rfl]
  dsimp only
  rw [hlsz, wrA o (by omega), wrB fr o (by omega), if_pos (show out.length < 3518437208883 by omega)]
  rfl
end Go.Proofs.YtnkfbappnpnaoaaDoor.Q
namespace Go.Proofs.YtnkfbappnpnaoaaDoor.Q
open Go.RowKit Go.Proofs.YtnkfbappnpnaoaaDoorW.PrintWords Go.Proofs.YtnkfbappnpnaoaaDoorW.PrintLast Go.Proofs.YtnkfbappnpnaoaaDoorW.PrintMore
attribute [local go_sem] max2_int min2_int max_two min_two max_three min_three max_four min_four   -- for this text's walks alone
set_option linter.unusedVariables false
set_option linter.unusedSimpArgs false
theorem rd_at (L : List S30) (i : Nat) (h : i < L.length) : rd_T30 L (i : Int) = L[i] := by simp [rd_T30, List.getD_eq_getElem?_getD, h]
end Go.Proofs.YtnkfbappnpnaoaaDoor.Q
namespace Go.Proofs.YtnkfbappnpnaoaaDoor.Q
open Go.RowKit Go.Proofs.YtnkfbappnpnaoaaDoorW.PrintWords Go.Proofs.YtnkfbappnpnaoaaDoorW.PrintLast Go.Proofs.YtnkfbappnpnaoaaDoorW.PrintMore
attribute [local go_sem] max2_int min2_int max_two min_two max_three min_three max_four min_four   -- for this text's walks alone
set_option linter.unusedVariables false
set_option linter.unusedSimpArgs false
def impl_JournalText.l0 : Nat → ByteArray → List (S30) → Int → Int → Option (ByteArray)
  | 0, _, _, _, _ => none
  | k + 1, x3, x7, x8, x9 => if x9 < x8 then (if 0 ≤ x9 then (if x9 < (x7.length : Int) then ((impl_deedTextM.f ((rd_T30 x7 x9).f0) ((rd_T30 x7 x9).f1) ((rd_T30 x7 x9).f2) ((rd_T30 x7 x9).f3)).bind fun t611 => (if t611.toList = ([] : List UInt8) then (some (⟨#[]⟩ : ByteArray)) else (if t611.size + 1 ≤ 9223372036854775807 then (if x3.size + (t611 ++ (⟨#[10]⟩ : ByteArray)).size ≤ 9223372036854775807 then (impl_JournalText.l0 k (x3 ++ (t611 ++ (⟨#[10]⟩ : ByteArray))) x7 x8 (wrap64 (x9 + 1))) else (none)) else (none)))) else (none)) else (none)) else (some x3)
def impl_JournalText.f (k : Nat) (l0 : List (S30)) : Option (ByteArray) := impl_JournalText.l0 k (⟨#[]⟩ : ByteArray) l0 (l0.length : Int) 0
set_option maxHeartbeats 8000000 in
set_option maxRecDepth 100000 in
theorem impl_JournalText.calls (k : Nat) (A0 : Option Addr) (c0 : Nat) (l0 : List (S30)) (r : ByteArray) (w : World) (hr0 : Kd.C k30 w A0 l0.length l0) (hc0 : l0.length ≤ c0) (h : impl_JournalText.f k l0 = some r) :
    Calls Tryd.prog 20 #[.slice A0 l0.length c0] w fun e w' => e = .returned (.string r) ∧ Below w.heap.size w w' := by
 have hu30 := Tryd.underlying30
 have HR0 := Aside0.mk hr0
 have HC0 := Aside0.mk hc0
 clear hr0 hc0
 have HB := Aside0.mk (Below.refl w.heap.size w)
 have H : (impl_JournalText.l0 k (⟨#[]⟩ : ByteArray) l0 (l0.length : Int) 0) = some r := h
 clear h
 have H' := Aside0.mk H
 clear H
 go_enter Tryd.func20, Tryd.ntmps20
 go_wp2
 go_loopg [3, 9] k (fun kq v3 v9 w' => ∃ (x3_1 : ByteArray) (x9_1 : Int), v3 = .string x3_1 ∧ v9 = .int .i64 x9_1 ∧ Aside0 (impl_JournalText.l0 kq x3_1 l0 (l0.length : Int) x9_1 = some r) ∧ Aside0 (kq ≤ k) ∧ Aside0 (Below w.heap.size w w'))
 case atStart => exact ⟨((⟨#[]⟩ : ByteArray)), (0), zcj_4, zcj_4, H', ⟨Nat.le_refl _⟩, ⟨zcj_5⟩⟩
 case round =>(
 clear H'
 obtain ⟨x3_1, x9_1, rfl, rfl, HA, HK1, HB⟩ := hrel
 cases gk with
 | zero => exact absurd HA.out (by simp [impl_JournalText.l0])
 | succ k1 =>(
 have H := HA.out
 clear HA
 simp only [impl_JournalText.l0] at H
 by_cases c2 : x9_1 < (l0.length : Int)
 {
 rw [if_pos c2] at H
 have c2b0 : decide (x9_1 < (l0.length : Int)) = true := decide_eq_true c2
 clear c2
 by_cases c3 : 0 ≤ x9_1
 {
 rw [if_pos c3] at H
 have c3b0 : decide (0 ≤ x9_1) = true := decide_eq_true c3
 clear c3
 by_cases c4 : x9_1 < (l0.length : Int)
 {
 rw [if_pos c4] at H
 have c4b0 : decide (x9_1 < (l0.length : Int)) = true := decide_eq_true c4
 clear c4
 replace H := Option.bind_eq_some_iff.mp H
 obtain ⟨t611, A50, H⟩ := H
 try dsimp only at H
 have A5 := Aside0.mk A50
 clear A50
 by_cases c6 : t611.toList = ([] : List UInt8)
 {
 rw [if_pos c6] at H
 have c6b0 : (t611.toList == ([] : List UInt8)) = true := beq_iff_eq.mpr c6
 have c6b1 : (t611.toList != ([] : List UInt8)) = false := bne_eq_false_iff_eq.mpr c6
 clear c6
 obtain rfl := Option.some.inj H
 have p609 : 0 ≤ (x9_1 : Int) := of_decide_eq_true zcj_2
 have q609 : x9_1 < (l0.length : Int) := of_decide_eq_true zcj_2
 obtain ⟨ad609, e609, hx609_0, hx609_1, hx609_2, hx609_3⟩ := at_T30 HR0.out x9_1 p609 q609
 cases e609
 replace hx609_0 := (HB.out.cell (World.block_lt_of_cell? w _ hx609_0)).trans hx609_0
 replace hx609_1 := (HB.out.cell (World.block_lt_of_cell? w _ hx609_1)).trans hx609_1
 replace hx609_2 := (HB.out.cell (World.block_lt_of_cell? w _ hx609_2)).trans hx609_2
 replace hx609_3 := (HB.out.cell (World.block_lt_of_cell? w _ hx609_3)).trans hx609_3
 replace p609 := eq_true p609
 replace q609 := eq_true q609
 go_wp2_with (first | ((with_reducible refine gate_dst (N := 5) rfl ?_); refine box_event ?hg (N := 5) ?hd (cs := #[.int .i64 0, .int .i64 0, .int .i64 0, .string (⟨#[]⟩ : ByteArray)]) (t := 30) ?hr ?_; (case hd => rfl); (case hg => rfl); (case hr => exact zcj_12); intro gb610 hg w7 hbox hb; refine zcj_f32 ?_; clear HB; intro HB BK610 GW610 GE610; clear hb hbox hg; have hcz8_0 : w7.cell? ⟨gb610, 0, none⟩ = some (.int .i64 0) := (blk_cell BK610.out 0).trans rfl; have hcz8_1 : w7.cell? ⟨gb610, 1, none⟩ = some (.int .i64 0) := (blk_cell BK610.out 1).trans rfl; have hcz8_2 : w7.cell? ⟨gb610, 2, none⟩ = some (.int .i64 0) := (blk_cell BK610.out 2).trans rfl; have hcz8_3 : w7.cell? ⟨gb610, 3, none⟩ = some (.string (⟨#[]⟩ : ByteArray)) := (blk_cell BK610.out 3).trans rfl; have hfz8_0 := blk_frozen BK610.out 0; have hfz8_1 := blk_frozen BK610.out 1; have hfz8_2 := blk_frozen BK610.out 2; have hfz8_3 := blk_frozen BK610.out 3) | ((with_reducible refine gate_callee (f := 29) rfl ?_); refine goesL_ (some 14) rfl rfl Tryd.func29 (by kernel_rfl) rfl #[.agg #[.int .i64 ((rd_T30 l0 x9_1).f0), .int .i64 ((rd_T30 l0 x9_1).f1), .int .i64 ((rd_T30 l0 x9_1).f2), .string ((rd_T30 l0 x9_1).f3)]] rfl zcj_3 ?_; (with_reducible refine (impl_deedTextM.calls ((rd_T30 l0 x9_1).f0) ((rd_T30 l0 x9_1).f1) ((rd_T30 l0 x9_1).f2) ((rd_T30 l0 x9_1).f3) t611 _ A5.out).mono ?_); rintro e w9 ⟨rfl, hb⟩; refine ⟨_, rfl, ?_⟩; refine zcj_f33 ?_; clear BK610; clear HB; intro BK610 HB; (try clear hb); (try clear hb2); (try clear hk); (try clear hi)))
 go_ret
 exact ⟨zcj_13, zcj_123⟩
 }
 {
 rw [if_neg c6] at H
 have c6b0 : (t611.toList == ([] : List UInt8)) = false := beq_eq_false_iff_ne.mpr c6
 have c6b1 : (t611.toList != ([] : List UInt8)) = true := bne_iff_ne.mpr c6
 by_cases c10 : t611.size + 1 ≤ 9223372036854775807
 {
 rw [if_pos c10] at H
 have c10b0 := eq_true c10
 have c10b1 : decide (t611.size + 1 ≤ 9223372036854775807) = true := decide_eq_true c10
 try have c10b2 : (9223372036854775807 < t611.size + 1) = False := eq_false (Nat.not_lt.2 c10)
 by_cases c11 : x3_1.size + (t611 ++ (⟨#[10]⟩ : ByteArray)).size ≤ 9223372036854775807
 {
 rw [if_pos c11] at H
 have c11z : x3_1.size + (t611.size + 1) ≤ 9223372036854775807 := by{
 have h_ := c11
 simp only [ByteArray.size_append] at h_
 exact h_
 }
 have c11y : (9223372036854775807 < x3_1.size + (t611.size + 1)) = False := eq_false (Nat.not_lt.2 c11z)
 have c11b0 := eq_true c11
 have c11b1 : decide (x3_1.size + (t611 ++ (⟨#[10]⟩ : ByteArray)).size ≤ 9223372036854775807) = true := decide_eq_true c11
 try have c11b2 : (9223372036854775807 < x3_1.size + (t611 ++ (⟨#[10]⟩ : ByteArray)).size) = False := eq_false (Nat.not_lt.2 c11)
 have H' := Aside0.mk H
 clear H
 have p609 : 0 ≤ (x9_1 : Int) := of_decide_eq_true zcj_2
 have q609 : x9_1 < (l0.length : Int) := of_decide_eq_true zcj_2
 obtain ⟨ad609, e609, hx609_0, hx609_1, hx609_2, hx609_3⟩ := at_T30 HR0.out x9_1 p609 q609
 cases e609
 replace hx609_0 := (HB.out.cell (World.block_lt_of_cell? w _ hx609_0)).trans hx609_0
 replace hx609_1 := (HB.out.cell (World.block_lt_of_cell? w _ hx609_1)).trans hx609_1
 replace hx609_2 := (HB.out.cell (World.block_lt_of_cell? w _ hx609_2)).trans hx609_2
 replace hx609_3 := (HB.out.cell (World.block_lt_of_cell? w _ hx609_3)).trans hx609_3
 replace p609 := eq_true p609
 replace q609 := eq_true q609
 go_wp2_with (first | ((with_reducible refine gate_dst (N := 5) rfl ?_); refine box_event ?hg (N := 5) ?hd (cs := #[.int .i64 0, .int .i64 0, .int .i64 0, .string (⟨#[]⟩ : ByteArray)]) (t := 30) ?hr ?_; (case hd => rfl); (case hg => rfl); (case hr => exact zcj_12); intro gb610 hg w12 hbox hb; refine zcj_f32 ?_; clear HB; intro HB BK610 GW610 GE610; clear hb hbox hg; have hcz13_0 : w12.cell? ⟨gb610, 0, none⟩ = some (.int .i64 0) := (blk_cell BK610.out 0).trans rfl; have hcz13_1 : w12.cell? ⟨gb610, 1, none⟩ = some (.int .i64 0) := (blk_cell BK610.out 1).trans rfl; have hcz13_2 : w12.cell? ⟨gb610, 2, none⟩ = some (.int .i64 0) := (blk_cell BK610.out 2).trans rfl; have hcz13_3 : w12.cell? ⟨gb610, 3, none⟩ = some (.string (⟨#[]⟩ : ByteArray)) := (blk_cell BK610.out 3).trans rfl; have hfz13_0 := blk_frozen BK610.out 0; have hfz13_1 := blk_frozen BK610.out 1; have hfz13_2 := blk_frozen BK610.out 2; have hfz13_3 := blk_frozen BK610.out 3) | ((with_reducible refine gate_callee (f := 29) rfl ?_); refine goesL_ (some 14) rfl rfl Tryd.func29 (by kernel_rfl) rfl #[.agg #[.int .i64 ((rd_T30 l0 x9_1).f0), .int .i64 ((rd_T30 l0 x9_1).f1), .int .i64 ((rd_T30 l0 x9_1).f2), .string ((rd_T30 l0 x9_1).f3)]] rfl zcj_3 ?_; (with_reducible refine (impl_deedTextM.calls ((rd_T30 l0 x9_1).f0) ((rd_T30 l0 x9_1).f1) ((rd_T30 l0 x9_1).f2) ((rd_T30 l0 x9_1).f3) t611 _ A5.out).mono ?_); rintro e w14 ⟨rfl, hb⟩; refine ⟨_, rfl, ?_⟩; refine zcj_f33 ?_; clear BK610; clear HB; intro BK610 HB; (try clear hb); (try clear hb2); (try clear hk); (try clear hi)))
 go_roundg k1
 case measure => have := HK1.out; omega
 case rel => exact ⟨(x3_1 ++ (t611 ++ (⟨#[10]⟩ : ByteArray))), (wrap64 (x9_1 + 1)), zcj_4, zcj_4, H', ⟨by have := HK1.out; omega⟩, ⟨zcj_123⟩⟩
 }
 {
 rw [if_neg c11] at H
 exact absurd H (by simp)
 }
 }
 {
 rw [if_neg c10] at H
 exact absurd H (by simp)
 }
 }
 }
 {
 rw [if_neg c4] at H
 exact absurd H (by simp)
 }
 }
 {
 rw [if_neg c3] at H
 exact absurd H (by simp)
 }
 }
 {
 rw [if_neg c2] at H
 have c2b0 : decide (x9_1 < (l0.length : Int)) = false := decide_eq_false c2
 clear c2
 obtain rfl := Option.some.inj H
 go_wp2
 go_ret
 exact ⟨zcj_13, zcj_5⟩
 }
 )
 )
end Go.Proofs.YtnkfbappnpnaoaaDoor.Q
namespace Go.Proofs.YtnkfbappnpnaoaaDoor.Q
open Go.RowKit Go.Proofs.YtnkfbappnpnaoaaDoorW.PrintWords Go.Proofs.YtnkfbappnpnaoaaDoorW.PrintLast Go.Proofs.YtnkfbappnpnaoaaDoorW.PrintMore
attribute [local go_sem] max2_int min2_int max_two min_two max_three min_three max_four min_four   -- for this text's walks alone
set_option linter.unusedVariables false
set_option linter.unusedSimpArgs false
attribute [local go_sem high] eqA30
def laws_sameDeeds.l0 : Nat → List (S30) → List (S30) → Int → Option (Bool)
  | 0, _, _, _ => none
  | k + 1, x0, x1, x5 => if x5 < (x0.length : Int) then (if 0 ≤ x5 then (if x5 < (x1.length : Int) then (if (!(((rd_T30 x0 x5).f0) == ((rd_T30 x1 x5).f0)) || (!(((rd_T30 x0 x5).f1) == ((rd_T30 x1 x5).f1)) || (!(((rd_T30 x0 x5).f2) == ((rd_T30 x1 x5).f2)) || (!((((rd_T30 x0 x5).f3).toList) == (((rd_T30 x1 x5).f3).toList)))))) = true then (some false) else (laws_sameDeeds.l0 k x0 x1 (wrap64 (x5 + 1)))) else (none)) else (none)) else (some true)
def laws_sameDeeds.f (k : Nat) (l0 : List (S30)) (l1 : List (S30)) : Option (Bool) := if (l0.length : Int) = (l1.length : Int) then (laws_sameDeeds.l0 k l0 l1 0) else (some false)
set_option maxHeartbeats 8000000 in
set_option maxRecDepth 100000 in
theorem laws_sameDeeds.calls (k : Nat) (A0 : Option Addr) (c0 : Nat) (l0 : List (S30)) (A1 : Option Addr) (c1 : Nat) (l1 : List (S30)) (r : Bool) (w : World) (hr0 : Kd.C k30 w A0 l0.length l0) (hc0 : l0.length ≤ c0) (hr1 : Kd.C k30 w A1 l1.length l1) (hc1 : l1.length ≤ c1) (h : laws_sameDeeds.f k l0 l1 = some r) :
    Calls Tryd.prog 22 #[.slice A0 l0.length c0, .slice A1 l1.length c1] w fun e w' => e = .returned (.bool r) ∧ Drawn0 w w' := by
 have hu30 := Tryd.underlying30
 have HR0 := Aside0.mk hr0
 have HC0 := Aside0.mk hc0
 clear hr0 hc0
 have HR1 := Aside0.mk hr1
 have HC1 := Aside0.mk hc1
 clear hr1 hc1
 have H : (if (l0.length : Int) = (l1.length : Int) then (laws_sameDeeds.l0 k l0 l1 0) else (some false)) = some r := h
 clear h
 by_cases c3 : (l0.length : Int) = (l1.length : Int)
 {
 rw [if_pos c3] at H
 have c3b0 : ((l0.length : Int) == (l1.length : Int)) = true := beq_iff_eq.mpr c3
 have c3b1 : ((l0.length : Int) != (l1.length : Int)) = false := bne_eq_false_iff_eq.mpr c3
 have c3b2 : (l0.length == l1.length) = true := by first | simpa using c3 | (simp at c3 ⊢; omega)
 clear c3
 have H' := Aside0.mk H
 clear H
 go_enter Tryd.func22, Tryd.ntmps22
 go_wp2
 repeat (go_quiet (fail); try go_wp2)
 go_loopg [5] k (fun kq v5 w' => ∃ (x5_1 : Int), v5 = .int .i64 x5_1 ∧ Aside0 (laws_sameDeeds.l0 kq l0 l1 x5_1 = some r) ∧ Aside0 (kq ≤ k) ∧ Drawn0 w w')
 case atStart => exact ⟨(0), zcj_4, H', ⟨Nat.le_refl _⟩, zcj_21⟩
 case round =>(
 clear H'
 try clear c1
 try clear c2
 try clear p2
 try clear c3
 try clear c3b0
 try clear c3b1
 try clear c3b2
 obtain ⟨x5_1, rfl, HA, HK1, ⟨m1, rfl⟩⟩ := hrel
 cases gk with
 | zero => exact absurd HA.out (by simp [laws_sameDeeds.l0])
 | succ k1 =>(
 have H := HA.out
 clear HA
 simp only [laws_sameDeeds.l0] at H
 by_cases c4 : x5_1 < (l0.length : Int)
 {
 rw [if_pos c4] at H
 have c4b0 : decide (x5_1 < (l0.length : Int)) = true := decide_eq_true c4
 clear c4
 by_cases c5 : 0 ≤ x5_1
 {
 rw [if_pos c5] at H
 have c5b0 : decide (0 ≤ x5_1) = true := decide_eq_true c5
 clear c5
 by_cases c6 : x5_1 < (l1.length : Int)
 {
 rw [if_pos c6] at H
 have c6b0 : decide (x5_1 < (l1.length : Int)) = true := decide_eq_true c6
 clear c6
 by_cases c7 : (!(((rd_T30 l0 x5_1).f0) == ((rd_T30 l1 x5_1).f0)) || (!(((rd_T30 l0 x5_1).f1) == ((rd_T30 l1 x5_1).f1)) || (!(((rd_T30 l0 x5_1).f2) == ((rd_T30 l1 x5_1).f2)) || (!((((rd_T30 l0 x5_1).f3).toList) == (((rd_T30 l1 x5_1).f3).toList)))))) = true
 {
 rw [if_pos c7] at H
 have c7b0 : (!(((rd_T30 l0 x5_1).f0) == ((rd_T30 l1 x5_1).f0)) || (!(((rd_T30 l0 x5_1).f1) == ((rd_T30 l1 x5_1).f1)) || (!(((rd_T30 l0 x5_1).f2) == ((rd_T30 l1 x5_1).f2)) || (!((((rd_T30 l0 x5_1).f3).toList) == (((rd_T30 l1 x5_1).f3).toList)))))) = true := c7
 clear c7
 obtain rfl := Option.some.inj H
 have p616 : 0 ≤ (x5_1 : Int) := of_decide_eq_true zcj_2
 have q616 : x5_1 < (l0.length : Int) := of_decide_eq_true zcj_2
 obtain ⟨ad616, e616, hx616_0, hx616_1, hx616_2, hx616_3⟩ := at_T30 HR0.out x5_1 p616 q616
 cases e616
 replace p616 := eq_true p616
 replace q616 := eq_true q616
 have p617 : 0 ≤ (x5_1 : Int) := of_decide_eq_true zcj_2
 have q617 : x5_1 < (l1.length : Int) := of_decide_eq_true zcj_2
 obtain ⟨ad617, e617, hx617_0, hx617_1, hx617_2, hx617_3⟩ := at_T30 HR1.out x5_1 p617 q617
 cases e617
 replace p617 := eq_true p617
 replace q617 := eq_true q617
 go_wp2
 repeat (go_quiet (fail); try go_wp2)
 go_ret
 exact ⟨zcj_4, zcj_21⟩
 }
 {
 rw [if_neg c7] at H
 have c7b0 : (!(((rd_T30 l0 x5_1).f0) == ((rd_T30 l1 x5_1).f0)) || (!(((rd_T30 l0 x5_1).f1) == ((rd_T30 l1 x5_1).f1)) || (!(((rd_T30 l0 x5_1).f2) == ((rd_T30 l1 x5_1).f2)) || (!((((rd_T30 l0 x5_1).f3).toList) == (((rd_T30 l1 x5_1).f3).toList)))))) = false := by simpa using c7
 clear c7
 have H' := Aside0.mk H
 clear H
 have p616 : 0 ≤ (x5_1 : Int) := of_decide_eq_true zcj_2
 have q616 : x5_1 < (l0.length : Int) := of_decide_eq_true zcj_2
 obtain ⟨ad616, e616, hx616_0, hx616_1, hx616_2, hx616_3⟩ := at_T30 HR0.out x5_1 p616 q616
 cases e616
 replace p616 := eq_true p616
 replace q616 := eq_true q616
 have p617 : 0 ≤ (x5_1 : Int) := of_decide_eq_true zcj_2
 have q617 : x5_1 < (l1.length : Int) := of_decide_eq_true zcj_2
 obtain ⟨ad617, e617, hx617_0, hx617_1, hx617_2, hx617_3⟩ := at_T30 HR1.out x5_1 p617 q617
 cases e617
 replace p617 := eq_true p617
 replace q617 := eq_true q617
 go_wp2
 repeat (go_quiet (fail); try go_wp2)
 go_roundg k1
 case measure => have := HK1.out; omega
 case rel => exact ⟨(wrap64 (x5_1 + 1)), zcj_4, H', ⟨by have := HK1.out; omega⟩, zcj_21⟩
 }
 }
 {
 rw [if_neg c6] at H
 exact absurd H (by simp)
 }
 }
 {
 rw [if_neg c5] at H
 exact absurd H (by simp)
 }
 }
 {
 rw [if_neg c4] at H
 have c4b0 : decide (x5_1 < (l0.length : Int)) = false := decide_eq_false c4
 clear c4
 obtain rfl := Option.some.inj H
 go_wp2
 repeat (go_quiet (fail); try go_wp2)
 go_ret
 exact ⟨zcj_4, zcj_21⟩
 }
 )
 )
 }
 {
 rw [if_neg c3] at H
 have c3b0 : ((l0.length : Int) == (l1.length : Int)) = false := beq_eq_false_iff_ne.mpr c3
 have c3b1 : ((l0.length : Int) != (l1.length : Int)) = true := bne_iff_ne.mpr c3
 have c3b2 : (l0.length == l1.length) = false := by first | simpa using c3 | (simp at c3 ⊢; omega)
 obtain rfl := Option.some.inj H
 go_enter Tryd.func22, Tryd.ntmps22
 go_wp2
 repeat (go_quiet (fail); try go_wp2)
 go_ret
 exact ⟨zcj_4, zcj_21⟩
 }
end Go.Proofs.YtnkfbappnpnaoaaDoor.Q
namespace Go.Proofs.YtnkfbappnpnaoaaDoor.Q
open Go.RowKit Go.Proofs.YtnkfbappnpnaoaaDoorW.PrintWords Go.Proofs.YtnkfbappnpnaoaaDoorW.PrintLast Go.Proofs.YtnkfbappnpnaoaaDoorW.PrintMore
attribute [local go_sem] max2_int min2_int max_two min_two max_three min_three max_four min_four   -- for this text's walks alone
set_option linter.unusedVariables false
set_option linter.unusedSimpArgs false
def spec_l20Deeds.l0 : Nat → List (S30) → Int → List Int → Int → Int → List Int → List ByteArray → Option ((List (S30)) × Int)
  | 0, _, _, _, _, _, _, _ => none
  | k + 1, x5, x6, x1000, x1001, x563000, x563001, x563002 => if x6 > 0 then ((spec_l20Deed.f k x1000 x1001 x563000 x563001 x563002).bind fun bt568 => (if x5.length < 3518437208883 then (spec_l20Deeds.l0 k (x5 ++ [(⟨bt568.1, bt568.2.1, bt568.2.2.1, bt568.2.2.2.1⟩ : S30)]) (wrap64 (x6 - 1)) x1000 bt568.2.2.2.2 x563000 x563001 x563002) else (none))) else (some (x5, x1001))
def spec_l20Deeds.f (k : Nat) (s0_0 : List Int) (s0_1 : Int) (a1_0 : Int) (l1_1 : List Int) (l1_2 : List ByteArray) : Option ((List (S30)) × Int) := (spec_l20Rd_pick.f k s0_0 s0_1 6).bind fun bt566 => (spec_l20Deeds.l0 k (([] : List (S30))) bt566.1 s0_0 bt566.2 a1_0 l1_1 l1_2)
set_option maxHeartbeats 8000000 in
set_option maxRecDepth 100000 in
theorem spec_l20Deeds.calls (k : Nat) (g : Nat) (s0_0 : List Int) (s0_1 : Int) (a1_0 : Int) (A1_1 : Option Addr) (c1_1 : Nat) (l1_1 : List Int) (A1_2 : Option Addr) (c1_2 : Nat) (l1_2 : List ByteArray) (r1 : List (S30)) (r2 : Int) (w0 w : World) (hI : IsS63 w0 w g s0_0 s0_1) (hB : Below w0.heap.size w0 w) (hr1_1 : Kd.C (Kd.int .i64) w A1_1 l1_1.length l1_1) (hc1_1 : l1_1.length ≤ c1_1) (hf1_1 : ∀ ad, A1_1 = some ad → 0 < l1_1.length → ad.block ≠ g) (hr1_2 : Kd.C Kd.string w A1_2 l1_2.length l1_2) (hc1_2 : l1_2.length ≤ c1_2) (hf1_2 : ∀ ad, A1_2 = some ad → 0 < l1_2.length → ad.block ≠ g) (h : spec_l20Deeds.f k s0_0 s0_1 a1_0 l1_1 l1_2 = some (r1, r2)) :
    Calls Tryd.prog 50 #[.pointer (some ⟨g, 0, none⟩), .agg #[.int .i64 a1_0, .slice A1_1 l1_1.length c1_1, .slice A1_2 l1_2.length c1_2]] w fun e w' => ∃ v0_ : Value, e = .returned (v0_) ∧ Kd.R k30 30 w' w.heap.size (fun _ => True) v0_ r1 ∧ IsS63 w0 w' g s0_0 r2 ∧ Below w0.heap.size w0 w' ∧ KeepBut w w' g none := by
 have hu50 := Tryd.underlying50
 have HR1_1 := Aside0.mk hr1_1
 have HC1_1 := Aside0.mk hc1_1
 clear hr1_1 hc1_1
 have HR1_2 := Aside0.mk hr1_2
 have HC1_2 := Aside0.mk hc1_2
 clear hr1_2 hc1_2
 have HI0 := Aside0.mk hI
 have HK := Aside0.mk (KeepBut.refl w g none)
 have HL := Aside0.mk hB.size
 clear hI
 have HW0 := Aside0.mk hB.size
 have HB := Aside0.mk hB
 clear hB
 have H : ((spec_l20Rd_pick.f k s0_0 s0_1 6).bind fun bt566 => (spec_l20Deeds.l0 k (([] : List (S30))) bt566.1 s0_0 bt566.2 a1_0 l1_1 l1_2)) = some (r1, r2) := h
 clear h
 obtain ⟨y563, hy563⟩ : ∃ y_ : List (S30), y_ = (([] : List (S30))) := ⟨_, rfl⟩
 replace H : ((spec_l20Rd_pick.f k s0_0 s0_1 6).bind fun bt566 => (spec_l20Deeds.l0 k y563 bt566.1 s0_0 bt566.2 a1_0 l1_1 l1_2)) = some (r1, r2) := by first | (rw [hy563]; with_reducible exact H) | (have H2_ := (Option.bind_some _ _).symm.trans H; rw [hy563]; with_reducible exact H2_) | (have H2_ := (Option.bind_some _ _).symm.trans H; with_reducible exact H2_) | with_reducible exact H | (rw [hy563]; exact H) | exact H
 have Ny563 := Aside0.mk hy563
 clear hy563
 replace H := Option.bind_eq_some_iff.mp H
 obtain ⟨⟨t566, t567⟩, A30, H⟩ := H
 try dsimp only at H
 have A3 := Aside0.mk A30
 clear A30
 have H' := Aside0.mk H
 clear H
 go_enter Tryd.func50, Tryd.ntmps50
 go_wp2_with (first | ((with_reducible refine gate_dst (N := 3) rfl ?_); refine box_event ?hg (N := 3) ?hd (cs := #[.int .i64 a1_0, .slice A1_1 l1_1.length c1_1, .slice A1_2 l1_2.length c1_2]) (t := 50) ?hr ?_; (case hd => rfl); (case hg => rfl); (case hr => exact zcj_12); intro gb562 hg w4 hbox hb; have n0_ := Aside0.mk (IsS63.below zcj_25 hb); have n1_ := Aside0.mk (KeepBut.trans zcj_17 (KeepBut.of_below hb g none) (.inl rfl)); have n2_ := Aside0.mk (below_step zcj_26 hb); have n3_ := Aside0.mk (hbox); have n4_ := Aside0.mk ((zcj_46 : w.heap.size ≤ gb562)); have n5_ := Aside0.mk ((Nat.le_trans HW0.out (zcj_46 : w.heap.size ≤ gb562) : w0.heap.size ≤ gb562)); have n6_ := Aside0.mk ((zcj_84 : g ≠ gb562)); have n7_ := Aside0.mk ((zcj_85 : gb562 ≠ g)); clear HI0; clear HK; clear HB; have HI0 := n0_; have HK := n1_; have HB := n2_; have BK562 := n3_; have GW562 := n4_; have GE562 := n5_; have NB0_562 := n6_; have NB562_0 := n7_; clear n0_ n1_ n2_ n3_ n4_ n5_ n6_ n7_; clear hb hbox hg) | ((with_reducible refine gate_dst (N := 7) rfl ?_); refine Kd.R_lit k30 _ 30 ?hg (N := 7) ?hd (xs := ([] : List (S30))) (inner := []) (ok := fun _ => True) (okp := fun _ => True) ?hr ?hp (fun _ hk => hk) trivial (Below.refl _ _) (Nat.le_refl _) (by simp) ?_; (case hd => rfl); (case hg => rfl); (case hr => exact zcj_12); (case hp => exact (Reps.none _ _)); intro v564 w5 ho6 hb hg_ hnew_; clear hg_ hnew_; (first | rw [← Ny563.out] at ho6 | (simp only [Int.reduceToNat] at ho6; rw [← Ny563.out] at ho6)); have n0_ := Aside0.mk (Kd.R_lower ho6 (keep_size (w := w) (g := g) (row := none) zcj_44)); have n1_ := Aside0.mk (IsS63.below zcj_66 hb); have n2_ := Aside0.mk (blk_below (g := gb562) (o := .cells #[.int .i64 a1_0, .slice A1_1 l1_1.length c1_1, .slice A1_2 l1_2.length c1_2] 50 (0, 0)) zcj_80 hb); have n3_ := Aside0.mk (KeepBut.trans zcj_44 (KeepBut.of_below hb g none) (.inl rfl)); have n4_ := Aside0.mk (below_step zcj_67 hb); clear HI0; clear BK562; clear HK; clear HB; have HO565 := n0_; have HI0 := n1_; have BK562 := n2_; have HK := n3_; have HB := n4_; clear n0_ n1_ n2_ n3_ n4_; clear hb ho6) | ((with_reducible refine gate_callee (f := 34) rfl ?_); refine goesL_ (some 9) rfl rfl Tryd.func34 (by kernel_rfl) rfl #[.pointer (some ⟨g, 0, none⟩), .int .i64 6] rfl zcj_3 ?_; (with_reducible refine (spec_l20Rd_pick.calls k g s0_0 s0_1 6 t566 t567 w0 _ ?side1 ?side2 A3.out).mono ?_); (case side1 => exact zcj_66); (case side2 => exact zcj_67); rintro e w7 ⟨rfl, hi, hb, hk⟩; refine ⟨_, rfl, ?_⟩; have n0_ := Aside0.mk (KeepBut.blk hk (g' := gb562) (o := .cells #[.int .i64 a1_0, .slice A1_1 l1_1.length c1_1, .slice A1_2 l1_2.length c1_2] 50 (0, 0)) zcj_80 NB562_0.out (by simp)); have n1_ := Aside0.mk (Kd.R_mono (Kd.R_keep (IsS63.apart (show IsS63 w0 _ g s0_0 s0_1 from by repeat (first | (with_reducible first | exact HI0.out | apply IsS63.alloc | apply IsS63.drewN | apply IsS63.drew | apply IsS63.set_1 | refine IsS63.far ?_ NB0_562.out _) | exact HI0.out)) zcj_171 (by decide)) hk (fun _ h => h.2)) (fun _ h => h.1)); have n2_ := Aside0.mk (KeepBut.trans zcj_44 hk (.inl rfl)); have n3_ := Aside0.mk (hb); have n4_ := Aside0.mk (hi); clear BK562; clear HO565; clear HK; clear HB; clear HI0; have BK562 := n0_; have HO565 := n1_; have HK := n2_; have HB := n3_; have HI0 := n4_; clear n0_ n1_ n2_ n3_ n4_; (try clear hb); (try clear hb2); (try clear hk); (try clear hi)))
 go_loopg [5, 6] k (fun kq v5 v6 w' => ∃ (x5_1 : List (S30)) (x6_1 : Int) (x1001_1 : Int), v6 = .int .i64 x6_1 ∧ Aside0 (spec_l20Deeds.l0 kq x5_1 x6_1 s0_0 x1001_1 a1_0 l1_1 l1_2 = some (r1, r2)) ∧ Aside0 (kq ≤ k) ∧ Aside0 (Kd.R k30 30 w' w.heap.size (fun _ => True) v5 x5_1) ∧ Aside0 (w'.heap[gb562]? = some (.cells #[.int .i64 a1_0, (.slice A1_1 l1_1.length c1_1), (.slice A1_2 l1_2.length c1_2)] 50 (0, 0))) ∧ Aside0 (IsS63 w0 w' g s0_0 x1001_1) ∧ Aside0 (KeepBut w w' g none) ∧ Aside0 (Below w0.heap.size w0 w'))
 case atStart => exact ⟨(y563), (t566), (t567), zcj_4, H', ⟨Nat.le_refl _⟩, ⟨zcj_171⟩, ⟨zcj_80⟩, ⟨zcj_66⟩, ⟨zcj_44⟩, ⟨zcj_67⟩⟩
 case round =>(
 clear H'
 try clear c1
 try clear p2
 try clear c3
 try clear c5
 obtain ⟨x5_1, x6_1, x1001_1, rfl, HA, HK1, HO_5, BK562, HI0, HK, HB⟩ := hrel
 cases gk with
 | zero => exact absurd HA.out (by simp [spec_l20Deeds.l0])
 | succ k1 =>(
 have H := HA.out
 clear HA
 simp only [spec_l20Deeds.l0] at H
 by_cases c8 : x6_1 > 0
 {
 rw [if_pos c8] at H
 have c8b0 : decide (0 < x6_1) = true := decide_eq_true c8
 clear c8
 replace H := Option.bind_eq_some_iff.mp H
 obtain ⟨⟨t568, t569, t570, t571, t572⟩, A90, H⟩ := H
 try dsimp only at H
 have A9 := Aside0.mk A90
 clear A90
 by_cases c10 : x5_1.length < 3518437208883
 {
 rw [if_pos c10] at H
 have LMc10 := Aside0.mk c10
 clear c10
 obtain ⟨y573, hy573⟩ : ∃ y_ : List (S30), y_ = (x5_1 ++ [(⟨t568, t569, t570, t571⟩ : S30)]) := ⟨_, rfl⟩
 replace H : (spec_l20Deeds.l0 k1 y573 (wrap64 (x6_1 - 1)) s0_0 t572 a1_0 l1_1 l1_2) = some (r1, r2) := by first | (rw [hy573]; with_reducible exact H) | (have H2_ := (Option.bind_some _ _).symm.trans H; rw [hy573]; with_reducible exact H2_) | (have H2_ := (Option.bind_some _ _).symm.trans H; with_reducible exact H2_) | with_reducible exact H | (rw [hy573]; exact H) | exact H
 have Ny573 := Aside0.mk hy573
 clear hy573
 have H' := Aside0.mk H
 clear H
 have hnb11 := NB562_0.out
 have hnc11 := NB0_562.out
 have hcz12_0 : wr.cell? ⟨gb562, 0, none⟩ = some (.int .i64 a1_0) := (blk_cell BK562.out 0).trans rfl
 have hcz12_1 : wr.cell? ⟨gb562, 1, none⟩ = some (.slice A1_1 l1_1.length c1_1) := (blk_cell BK562.out 1).trans rfl
 have hcz12_2 : wr.cell? ⟨gb562, 2, none⟩ = some (.slice A1_2 l1_2.length c1_2) := (blk_cell BK562.out 2).trans rfl
 have hfz12_0 := blk_frozen BK562.out 0
 have hfz12_1 := blk_frozen BK562.out 1
 have hfz12_2 := blk_frozen BK562.out 2
 go_wp2_with (first | ((with_reducible refine gate_callee (f := 27) rfl ?_); refine goesL_ (some 17) rfl rfl Tryd.func27 (by kernel_rfl) rfl #[.pointer (some ⟨g, 0, none⟩), .agg #[.int .i64 a1_0, .slice A1_1 l1_1.length c1_1, .slice A1_2 l1_2.length c1_2]] rfl zcj_3 ?_; (with_reducible refine (spec_l20Deed.calls k1 g s0_0 x1001_1 a1_0 _ _ l1_1 _ _ l1_2 t568 t569 t570 t571 t572 w0 _ ?side1 ?side2 ?side3 ?side4 ?side5 ?side6 ?side7 ?side8 A9.out).mono ?_); (case side1 => exact zcj_66); (case side2 => exact zcj_67); (case side3 => exact Kd.C_keep 0 HR1_1.out zcj_44 hf1_1); (case side4 => exact HC1_1.out); (case side5 => exact hf1_1); (case side6 => exact Kd.C_keep (⟨#[]⟩ : ByteArray) HR1_2.out zcj_44 hf1_2); (case side7 => exact HC1_2.out); (case side8 => exact hf1_2); rintro e w13 ⟨rfl, hi, hb, hk⟩; refine ⟨_, rfl, ?_⟩; have n0_ := Aside0.mk (Kd.R_mono (Kd.R_keep (IsS63.apart (show IsS63 w0 _ g s0_0 x1001_1 from by repeat (first | (with_reducible first | exact HI0.out | apply IsS63.alloc | apply IsS63.drewN | apply IsS63.drew | apply IsS63.set_1 | refine IsS63.far ?_ NB0_562.out _) | exact HI0.out)) zcj_124 (by decide)) hk (fun _ h => h.2)) (fun _ h => h.1)); have n1_ := Aside0.mk (KeepBut.blk hk (g' := gb562) (o := .cells #[.int .i64 a1_0, .slice A1_1 l1_1.length c1_1, .slice A1_2 l1_2.length c1_2] 50 (0, 0)) zcj_80 NB562_0.out (by simp)); have n2_ := Aside0.mk (KeepBut.trans zcj_44 hk (.inl rfl)); have n3_ := Aside0.mk (hb); have n4_ := Aside0.mk (hi); clear HO_5; clear BK562; clear HK; clear HB; clear HI0; have HO_5 := n0_; have BK562 := n1_; have HK := n2_; have HB := n3_; have HI0 := n4_; clear n0_ n1_ n2_ n3_ n4_; (try clear hb); (try clear hb2); (try clear hk); (try clear hi)) | ((with_reducible refine gate_builtin (b := .append) (xs := #[.tmp 14, .tmp 18]) rfl ?_); at_builtin; refine Kd.R_append k30 w.heap.size rfl (.tmp 14) (.tmp 18) 22 30 (.agg #[(.int .i64 0), (.int .i64 0), (.int .i64 0), (.string ⟨#[]⟩)]) 40 rfl Tryd.underlying22 info30 rfl (by decide) (by omega) u5 x5_1 (⟨t568, t569, t570, t571⟩ : S30) [.int .i64 t568, .int .i64 t569, .int .i64 t570, .string t571] (fun _ => True) (fun _ => False) rfl rfl ?aP (fun _ hk => hk.elim) ?aF ?aO (Below.refl _ _) ?aS ?aL ?_; (case aP => exact k30_mkM _ _ _ (⟨t568, t569, t570, t571⟩ : S30)); (case aF => exact zcj_87); (case aO => exact zcj_124); (case aS => exact (keep_size (w := w) (g := g) (row := none) zcj_44)); (case aL => have := LMc10.out; omega); intro v574 w14 ho hb hg hat; rw [← Ny573.out] at ho; have n0_ := Aside0.mk (blk_grown (g := gb562) (o := .cells #[.int .i64 a1_0, .slice A1_1 l1_1.length c1_1, .slice A1_2 l1_2.length c1_2] 50 (0, 0)) zcj_80 hg (Kd.R_ne HO_5.out BK562.out (by decide))); have n1_ := Aside0.mk (IsS63.grown zcj_66 hg (IsS63.own_ne HI0.out HO_5.out (by decide))); have n2_ := Aside0.mk (below_weaken zcj_67 HL.out hb); have n3_ := Aside0.mk (KeepBut.trans zcj_44 (KeepBut.of_grown hg g) (Kd.R_base2 HO_5.out)); have n4_ := Aside0.mk (ho); clear BK562; clear HI0; clear HB; clear HK; clear HO_5; have BK562 := n0_; have HI0 := n1_; have HB := n2_; have HK := n3_; have HO575 := n4_; clear n0_ n1_ n2_ n3_ n4_; clear ho hb hg hat))
 go_roundg k1
 case measure => have := HK1.out; omega
 case rel => exact ⟨(y573), (wrap64 (x6_1 - 1)), (t572), zcj_4, H', ⟨by have := HK1.out; omega⟩, ⟨by (with_reducible repeat (first | apply Kd.R_alloc | apply Kd.R_drewN | apply Kd.R_drew)); exact HO575.out⟩, ⟨zcj_80⟩, ⟨zcj_66⟩, ⟨zcj_44⟩, ⟨zcj_67⟩⟩
 }
 {
 rw [if_neg c10] at H
 exact absurd H (by simp)
 }
 }
 {
 rw [if_neg c8] at H
 have c8b0 : decide (0 < x6_1) = false := decide_eq_false c8
 clear c8
 simp only [Option.some.injEq, Prod.mk.injEq] at H
 obtain ⟨rfl, rfl⟩ := H
 go_wp2
 go_ret
 exact ⟨_, zcj_13, zcj_124, zcj_66, zcj_67, zcj_44⟩
 }
 )
 )
end Go.Proofs.YtnkfbappnpnaoaaDoor.Q
namespace Go.Proofs.YtnkfbappnpnaoaaDoor.Q
open Go.RowKit Go.Proofs.YtnkfbappnpnaoaaDoorW.PrintWords Go.Proofs.YtnkfbappnpnaoaaDoorW.PrintLast Go.Proofs.YtnkfbappnpnaoaaDoorW.PrintMore
attribute [local go_sem] max2_int min2_int max_two min_two max_three min_three max_four min_four   -- for this text's walks alone
set_option linter.unusedVariables false
set_option linter.unusedSimpArgs false
def spec_l20Written.l0 : Nat → List (S30) → List (S30) → Int → List Int → Int → Option ((List (S30)) × Int)
  | 0, _, _, _, _, _ => none
  | k + 1, x3, x4, x5, x1000, x1001 => if x5 < (x4.length : Int) then (if 0 ≤ x5 then ((spec_DeedText.f k ((rd_T30 x4 x5).f0) ((rd_T30 x4 x5).f1) ((rd_T30 x4 x5).f2) ((rd_T30 x4 x5).f3)).bind fun t592 => (if t592.toList = ([] : List UInt8) then (spec_l20Written.l0 k x3 x4 (wrap64 (x5 + 1)) x1000 x1001) else (if x3.length < 3518437208883 then (spec_l20Written.l0 k (x3 ++ [(⟨(rd_T30 x4 x5).f0, (rd_T30 x4 x5).f1, (rd_T30 x4 x5).f2, (rd_T30 x4 x5).f3⟩ : S30)]) x4 (wrap64 (x5 + 1)) x1000 x1001) else (none)))) else (none)) else (some (x3, x1001))
def spec_l20Written.f (k : Nat) (s0_0 : List Int) (s0_1 : Int) : Option ((List (S30)) × Int) := (spec_l20Place.f k s0_0 s0_1 0).bind fun bt579 => ((spec_l20Deeds.f k s0_0 bt579.2.2.2 bt579.1 bt579.2.1 bt579.2.2.1).bind fun bt587 => (spec_l20Written.l0 k (([] : List (S30))) bt587.1 0 s0_0 bt587.2))
set_option maxHeartbeats 8000000 in
set_option maxRecDepth 100000 in
theorem spec_l20Written.calls (k : Nat) (g : Nat) (s0_0 : List Int) (s0_1 : Int) (r1 : List (S30)) (r2 : Int) (w0 w : World) (hI : IsS63 w0 w g s0_0 s0_1) (hB : Below w0.heap.size w0 w) (h : spec_l20Written.f k s0_0 s0_1 = some (r1, r2)) :
    Calls Tryd.prog 38 #[.pointer (some ⟨g, 0, none⟩)] w fun e w' => ∃ v0_ : Value, e = .returned (v0_) ∧ Kd.R k30 30 w' w.heap.size (fun _ => True) v0_ r1 ∧ IsS63 w0 w' g s0_0 r2 ∧ Below w0.heap.size w0 w' ∧ KeepBut w w' g none := by
 have hu30 := Tryd.underlying30
 have HI0 := Aside0.mk hI
 have HK := Aside0.mk (KeepBut.refl w g none)
 have HL := Aside0.mk hB.size
 clear hI
 have HW0 := Aside0.mk hB.size
 have HB := Aside0.mk hB
 clear hB
 have H : ((spec_l20Place.f k s0_0 s0_1 0).bind fun bt579 => ((spec_l20Deeds.f k s0_0 bt579.2.2.2 bt579.1 bt579.2.1 bt579.2.2.1).bind fun bt587 => (spec_l20Written.l0 k (([] : List (S30))) bt587.1 0 s0_0 bt587.2))) = some (r1, r2) := h
 clear h
 obtain ⟨y576, hy576⟩ : ∃ y_ : List (S30), y_ = (([] : List (S30))) := ⟨_, rfl⟩
 replace H : ((spec_l20Place.f k s0_0 s0_1 0).bind fun bt579 => ((spec_l20Deeds.f k s0_0 bt579.2.2.2 bt579.1 bt579.2.1 bt579.2.2.1).bind fun bt587 => (spec_l20Written.l0 k y576 bt587.1 0 s0_0 bt587.2))) = some (r1, r2) := by first | (rw [hy576]; with_reducible exact H) | (have H2_ := (Option.bind_some _ _).symm.trans H; rw [hy576]; with_reducible exact H2_) | (have H2_ := (Option.bind_some _ _).symm.trans H; with_reducible exact H2_) | with_reducible exact H | (rw [hy576]; exact H) | exact H
 have Ny576 := Aside0.mk hy576
 clear hy576
 replace H := Option.bind_eq_some_iff.mp H
 obtain ⟨⟨t579, t580, t583, t586⟩, A20, H⟩ := H
 try dsimp only at H
 have A2 := Aside0.mk A20
 clear A20
 replace H := Option.bind_eq_some_iff.mp H
 obtain ⟨⟨t587, t590⟩, A30, H⟩ := H
 try dsimp only at H
 have A3 := Aside0.mk A30
 clear A30
 have H' := Aside0.mk H
 clear H
 go_enter Tryd.func38, Tryd.ntmps38
 go_wp2_with (first | ((with_reducible refine gate_dst (N := 6) rfl ?_); refine Kd.R_lit k30 _ 30 ?hg (N := 6) ?hd (xs := ([] : List (S30))) (inner := []) (ok := fun _ => True) (okp := fun _ => True) ?hr ?hp (fun _ hk => hk) trivial (Below.refl _ _) (Nat.le_refl _) (by simp) ?_; (case hd => rfl); (case hg => rfl); (case hr => exact zcj_12); (case hp => exact (Reps.none _ _)); intro v577 w4 ho5 hb hg_ hnew_; clear hg_ hnew_; (first | rw [← Ny576.out] at ho5 | (simp only [Int.reduceToNat] at ho5; rw [← Ny576.out] at ho5)); have n0_ := Aside0.mk (Kd.R_lower ho5 (keep_size (w := w) (g := g) (row := none) zcj_17)); have n1_ := Aside0.mk (IsS63.below zcj_25 hb); have n2_ := Aside0.mk (KeepBut.trans zcj_17 (KeepBut.of_below hb g none) (.inl rfl)); have n3_ := Aside0.mk (below_step zcj_26 hb); clear HI0; clear HK; clear HB; have HO578 := n0_; have HI0 := n1_; have HK := n2_; have HB := n3_; clear n0_ n1_ n2_ n3_; clear hb ho5) | ((with_reducible refine gate_callee (f := 28) rfl ?_); refine goesL_ (some 9) rfl rfl Tryd.func28 (by kernel_rfl) rfl #[.pointer (some ⟨g, 0, none⟩), .int .i64 0] rfl zcj_3 ?_; (with_reducible refine (spec_l20Place.calls k g s0_0 s0_1 0 t579 t580 t583 t586 w0 _ ?side1 ?side2 A2.out).mono ?_); (case side1 => exact zcj_25); (case side2 => exact zcj_26); rintro e w6 ⟨v581, v584, rfl, ho0, ho1, hi, hb, hk⟩; refine ⟨_, rfl, ?_⟩; have n0_ := Aside0.mk (Kd.R_mono (Kd.R_keep (IsS63.apart (show IsS63 w0 _ g s0_0 s0_1 from by repeat (first | (with_reducible first | exact HI0.out | apply IsS63.alloc | apply IsS63.drewN | apply IsS63.drew | apply IsS63.set_1) | exact HI0.out)) zcj_125 (by decide)) hk (fun _ h => h.2)) (fun _ h => h.1)); have n1_ := Aside0.mk (Kd.R_lower ho0 (keep_size (w := w) (g := g) (row := none) zcj_17)); have n2_ := Aside0.mk (Kd.R_lower ho1 (keep_size (w := w) (g := g) (row := none) zcj_17)); have n3_ := Aside0.mk (KeepBut.trans zcj_17 hk (.inl rfl)); have n4_ := Aside0.mk (hb); have n5_ := Aside0.mk (hi); clear HO578; clear HK; clear HB; clear HI0; have HO578 := n0_; have HO582 := n1_; have HO585 := n2_; have HK := n3_; have HB := n4_; have HI0 := n5_; clear n0_ n1_ n2_ n3_ n4_ n5_; (try clear hb); (try clear hb2); (try clear hk); (try clear hi); (try clear ho0); (try clear ho1); obtain ⟨Ao7, co7, eo7⟩ := Kd.R_slice HO582.out; subst eo7; obtain ⟨Ao8, co8, eo8⟩ := Kd.R_slice HO585.out; subst eo8) | ((with_reducible refine gate_callee (f := 50) rfl ?_); refine goesL_ (some 10) rfl rfl Tryd.func50 (by kernel_rfl) rfl #[.pointer (some ⟨g, 0, none⟩), .agg #[.int .i64 t579, .slice Ao7 t580.length co7, .slice Ao8 t583.length co8]] rfl zcj_3 ?_; (with_reducible refine (spec_l20Deeds.calls k g s0_0 t586 t579 _ _ t580 _ _ t583 t587 t590 w0 _ ?side1 ?side2 ?side3 ?side4 ?side5 ?side6 ?side7 ?side8 A3.out).mono ?_); (case side1 => exact zcj_25); (case side2 => exact zcj_26); (case side3 => repeat (first | exact (Kd.R_reads' HO582.out).2.2 | (with_reducible refine Kd.C_alloc ?_ _) | (with_reducible refine Kd.C_drewN ?_ _) | (with_reducible refine Kd.C_drew ?_))); (case side4 => exact (Kd.R_reads' HO582.out).2.1); (case side5 => exact far_slice (IsS63.own_ne HI0.out HO582.out (by decide))); (case side6 => repeat (first | exact (Kd.R_reads' HO585.out).2.2 | (with_reducible refine Kd.C_alloc ?_ _) | (with_reducible refine Kd.C_drewN ?_ _) | (with_reducible refine Kd.C_drew ?_))); (case side7 => exact (Kd.R_reads' HO585.out).2.1); (case side8 => exact far_slice (IsS63.own_ne HI0.out HO585.out (by decide))); rintro e w9 ⟨v588, rfl, ho0, hi, hb, hk⟩; refine ⟨_, rfl, ?_⟩; have n0_ := Aside0.mk (Kd.R_mono (Kd.R_told (Kd.R_oldK (IsS63.apart (show IsS63 w0 _ g s0_0 t586 from by repeat (first | (with_reducible first | exact HI0.out | apply IsS63.alloc | apply IsS63.drewN | apply IsS63.drew | apply IsS63.set_1) | exact HI0.out)) zcj_125 (by decide)) hk) (Kd.R_base ho0)) (fun _ h_ => h_.1)); have n1_ := Aside0.mk (Kd.R_mono (Kd.R_keep (IsS63.apart (show IsS63 w0 _ g s0_0 t586 from by repeat (first | (with_reducible first | exact HI0.out | apply IsS63.alloc | apply IsS63.drewN | apply IsS63.drew | apply IsS63.set_1) | exact HI0.out)) (by (with_reducible repeat (first | apply Kd.R_alloc | apply Kd.R_drewN | apply Kd.R_drew)); exact HO582.out) (by decide)) hk (fun _ h => h.2)) (fun _ h => h.1)); have n2_ := Aside0.mk (Kd.R_mono (Kd.R_keep (IsS63.apart (show IsS63 w0 _ g s0_0 t586 from by repeat (first | (with_reducible first | exact HI0.out | apply IsS63.alloc | apply IsS63.drewN | apply IsS63.drew | apply IsS63.set_1) | exact HI0.out)) (by (with_reducible repeat (first | apply Kd.R_alloc | apply Kd.R_drewN | apply Kd.R_drew)); exact HO585.out) (by decide)) hk (fun _ h => h.2)) (fun _ h => h.1)); have n3_ := Aside0.mk (Kd.R_lower (Kd.R_new' ho0 (Kd.R_lt zcj_125)) (keep_size (w := w) (g := g) (row := none) zcj_17)); have n4_ := Aside0.mk (KeepBut.trans zcj_17 hk (.inl rfl)); have n5_ := Aside0.mk (hb); have n6_ := Aside0.mk (hi); clear HO578; clear HO582; clear HO585; clear HK; clear HB; clear HI0; have HO578 := n0_; have HO582 := n1_; have HO585 := n2_; have HO589 := n3_; have HK := n4_; have HB := n5_; have HI0 := n6_; clear n0_ n1_ n2_ n3_ n4_ n5_ n6_; (try clear hb); (try clear hb2); (try clear hk); (try clear hi); (try clear ho0)))
 go_loopg [3, 5] k (fun kq v3 v5 w' => ∃ (x3_1 : List (S30)) (x5_1 : Int), v5 = .int .i64 x5_1 ∧ Aside0 (spec_l20Written.l0 kq x3_1 t587 x5_1 s0_0 t590 = some (r1, r2)) ∧ Aside0 (kq ≤ k) ∧ Aside0 (Kd.R k30 30 w' w.heap.size (fun k_ => some k_ ≠ (v588 : Value).ownBlock) v3 x3_1) ∧ Aside0 (Kd.R k30 30 w' w.heap.size (fun k_ => some k_ ≠ (v3 : Value).ownBlock) v588 t587) ∧ Aside0 (IsS63 w0 w' g s0_0 t590) ∧ Aside0 (KeepBut w w' g none) ∧ Aside0 (Below w0.heap.size w0 w'))
 case atStart => exact ⟨(y576), (0), zcj_4, H', ⟨Nat.le_refl _⟩, ⟨by (with_reducible repeat (first | apply Kd.R_alloc | apply Kd.R_drewN | apply Kd.R_drew)); exact Kd.R_mono HO578.out (fun _ hk => hk.2)⟩, ⟨by (with_reducible repeat (first | apply Kd.R_alloc | apply Kd.R_drewN | apply Kd.R_drew)); exact Kd.R_mono HO589.out (fun _ hk => hk.2)⟩, ⟨zcj_25⟩, ⟨zcj_17⟩, ⟨zcj_26⟩⟩
 case round =>(
 clear H'
 try clear c2
 try clear p2
 try clear c3
 try clear c5
 obtain ⟨x3_1, x5_1, rfl, HA, HK1, HO_3, HO_4, HI0, HK, HB⟩ := hrel
 cases gk with
 | zero => exact absurd HA.out (by simp [spec_l20Written.l0])
 | succ k1 =>(
 have H := HA.out
 clear HA
 simp only [spec_l20Written.l0] at H
 by_cases c10 : x5_1 < (t587.length : Int)
 {
 rw [if_pos c10] at H
 have c10b0 : decide (x5_1 < (t587.length : Int)) = true := decide_eq_true c10
 clear c10
 by_cases c11 : 0 ≤ x5_1
 {
 rw [if_pos c11] at H
 have c11b0 : decide (0 ≤ x5_1) = true := decide_eq_true c11
 clear c11
 replace H := Option.bind_eq_some_iff.mp H
 obtain ⟨t592, A120, H⟩ := H
 try dsimp only at H
 have A12 := Aside0.mk A120
 clear A120
 by_cases c13 : t592.toList = ([] : List UInt8)
 {
 rw [if_pos c13] at H
 have c13b0 : (t592.toList == ([] : List UInt8)) = true := beq_iff_eq.mpr c13
 have c13b1 : (t592.toList != ([] : List UInt8)) = false := bne_eq_false_iff_eq.mpr c13
 clear c13
 have H' := Aside0.mk H
 clear H
 obtain ⟨Ao14, co14, eo14⟩ := Kd.R_slice HO_4.out
 subst eo14
 have p591 : 0 ≤ (x5_1 : Int) := of_decide_eq_true zcj_2
 have q591 : x5_1 < (t587.length : Int) := of_decide_eq_true zcj_2
 obtain ⟨ad591, e591, hx591_0, hx591_1, hx591_2, hx591_3⟩ := at_T30 (Kd.R_reads' HO_4.out).2.2 x5_1 p591 q591
 cases e591
 replace p591 := eq_true p591
 replace q591 := eq_true q591
 go_wp2_with (first | ((with_reducible refine gate_callee (f := 14) rfl ?_); refine goesL_ (some 21) rfl rfl Tryd.func14 (by kernel_rfl) rfl #[.agg #[.int .i64 ((rd_T30 t587 x5_1).f0), .int .i64 ((rd_T30 t587 x5_1).f1), .int .i64 ((rd_T30 t587 x5_1).f2), .string ((rd_T30 t587 x5_1).f3)]] rfl zcj_3 ?_; (with_reducible refine (spec_DeedText.calls k1 ((rd_T30 t587 x5_1).f0) ((rd_T30 t587 x5_1).f1) ((rd_T30 t587 x5_1).f2) ((rd_T30 t587 x5_1).f3) t592 _ A12.out).mono ?_); rintro e w15 ⟨rfl, hb⟩; refine ⟨_, rfl, ?_⟩; refine zcj_f34 ?_; clear HO_3; clear HO_4; clear HI0; clear HK; clear HB; intro HO_3 HO_4 HI0 HK HB; (try clear hb); (try clear hb2); (try clear hk); (try clear hi)))
 go_roundg k1
 case measure => have := HK1.out; omega
 case rel => exact ⟨(x3_1), (wrap64 (x5_1 + 1)), zcj_4, H', ⟨by have := HK1.out; omega⟩, ⟨zcj_126⟩, ⟨zcj_57⟩, ⟨zcj_25⟩, ⟨zcj_17⟩, ⟨zcj_26⟩⟩
 }
 {
 rw [if_neg c13] at H
 have c13b0 : (t592.toList == ([] : List UInt8)) = false := beq_eq_false_iff_ne.mpr c13
 have c13b1 : (t592.toList != ([] : List UInt8)) = true := bne_iff_ne.mpr c13
 by_cases c16 : x3_1.length < 3518437208883
 {
 rw [if_pos c16] at H
 have LMc16 := Aside0.mk c16
 clear c16
 obtain ⟨y594, hy594⟩ : ∃ y_ : List (S30), y_ = (x3_1 ++ [(⟨(rd_T30 t587 x5_1).f0, (rd_T30 t587 x5_1).f1, (rd_T30 t587 x5_1).f2, (rd_T30 t587 x5_1).f3⟩ : S30)]) := ⟨_, rfl⟩
 replace H : (spec_l20Written.l0 k1 y594 t587 (wrap64 (x5_1 + 1)) s0_0 t590) = some (r1, r2) := by first | (rw [hy594]; with_reducible exact H) | (have H2_ := (Option.bind_some _ _).symm.trans H; rw [hy594]; with_reducible exact H2_) | (have H2_ := (Option.bind_some _ _).symm.trans H; with_reducible exact H2_) | with_reducible exact H | (rw [hy594]; exact H) | exact H
 have Ny594 := Aside0.mk hy594
 clear hy594
 have H' := Aside0.mk H
 clear H
 obtain ⟨Ao17, co17, eo17⟩ := Kd.R_slice HO_4.out
 subst eo17
 have p591 : 0 ≤ (x5_1 : Int) := of_decide_eq_true zcj_2
 have q591 : x5_1 < (t587.length : Int) := of_decide_eq_true zcj_2
 obtain ⟨ad591, e591, hx591_0, hx591_1, hx591_2, hx591_3⟩ := at_T30 (Kd.R_reads' HO_4.out).2.2 x5_1 p591 q591
 cases e591
 replace p591 := eq_true p591
 replace q591 := eq_true q591
 go_wp2_with (first | ((with_reducible refine gate_callee (f := 14) rfl ?_); refine goesL_ (some 21) rfl rfl Tryd.func14 (by kernel_rfl) rfl #[.agg #[.int .i64 ((rd_T30 t587 x5_1).f0), .int .i64 ((rd_T30 t587 x5_1).f1), .int .i64 ((rd_T30 t587 x5_1).f2), .string ((rd_T30 t587 x5_1).f3)]] rfl zcj_3 ?_; (with_reducible refine (spec_DeedText.calls k1 ((rd_T30 t587 x5_1).f0) ((rd_T30 t587 x5_1).f1) ((rd_T30 t587 x5_1).f2) ((rd_T30 t587 x5_1).f3) t592 _ A12.out).mono ?_); rintro e w18 ⟨rfl, hb⟩; refine ⟨_, rfl, ?_⟩; refine zcj_f34 ?_; clear HO_3; clear HO_4; clear HI0; clear HK; clear HB; intro HO_3 HO_4 HI0 HK HB; (try clear hb); (try clear hb2); (try clear hk); (try clear hi); have p593 : 0 ≤ (x5_1 : Int) := of_decide_eq_true zcj_2; have q593 : x5_1 < (t587.length : Int) := of_decide_eq_true zcj_2; obtain ⟨ad593, e593, hx593_0, hx593_1, hx593_2, hx593_3⟩ := at_T30 (Kd.R_reads' HO_4.out).2.2 x5_1 p593 q593; obtain rfl : ad591 = ad593 := (by injection e593); replace p593 := eq_true p593; replace q593 := eq_true q593) | ((with_reducible refine gate_builtin (b := .append) (xs := #[.tmp 23, .tmp 28]) rfl ?_); at_builtin; refine Kd.R_append k30 w.heap.size rfl (.tmp 23) (.tmp 28) 22 30 (.agg #[(.int .i64 0), (.int .i64 0), (.int .i64 0), (.string ⟨#[]⟩)]) 40 rfl Tryd.underlying22 info30 rfl (by decide) (by omega) u3 x3_1 (⟨(rd_T30 t587 x5_1).f0, (rd_T30 t587 x5_1).f1, (rd_T30 t587 x5_1).f2, (rd_T30 t587 x5_1).f3⟩ : S30) [.int .i64 ((rd_T30 t587 x5_1).f0), .int .i64 ((rd_T30 t587 x5_1).f1), .int .i64 ((rd_T30 t587 x5_1).f2), .string ((rd_T30 t587 x5_1).f3)] (fun k_ => some k_ ≠ (.slice (some ad591) t587.length co17 : Value).ownBlock) (fun _ => False) rfl rfl ?aP (fun _ hk => hk.elim) ?aF ?aO (Below.refl _ _) ?aS ?aL ?_; (case aP => exact k30_mkM _ _ _ (⟨(rd_T30 t587 x5_1).f0, (rd_T30 t587 x5_1).f1, (rd_T30 t587 x5_1).f2, (rd_T30 t587 x5_1).f3⟩ : S30)); (case aF => exact (fun k_ hk => Kd.fresh' (Kd.R_lt zcj_57) k_ hk)); (case aO => exact zcj_126); (case aS => exact (keep_size (w := w) (g := g) (row := none) zcj_17)); (case aL => have := LMc16.out; omega); intro v595 w19 ho hb hg hat; rw [← Ny594.out] at ho; have n0_ := Aside0.mk (Kd.R_after (ok := (fun _ => True)) (by (with_reducible repeat (first | apply Kd.R_alloc | apply Kd.R_drewN | apply Kd.R_drew)); exact Kd.R_mono HO_4.out (fun _ hk => ⟨trivial, hk⟩)) hg hat); have n1_ := Aside0.mk (IsS63.grown zcj_25 hg (IsS63.own_ne HI0.out HO_3.out (by decide))); have n2_ := Aside0.mk (below_weaken zcj_26 HL.out hb); have n3_ := Aside0.mk (KeepBut.trans zcj_17 (KeepBut.of_grown hg g) (Kd.R_base2 HO_3.out)); have n4_ := Aside0.mk (ho); clear HO_4; clear HI0; clear HB; clear HK; clear HO_3; have HO_4 := n0_; have HI0 := n1_; have HB := n2_; have HK := n3_; have HO596 := n4_; clear n0_ n1_ n2_ n3_ n4_; clear ho hb hg hat))
 go_roundg k1
 case measure => have := HK1.out; omega
 case rel => exact ⟨(y594), (wrap64 (x5_1 + 1)), zcj_4, H', ⟨by have := HK1.out; omega⟩, ⟨by (with_reducible repeat (first | apply Kd.R_alloc | apply Kd.R_drewN | apply Kd.R_drew)); exact HO596.out⟩, ⟨by (with_reducible repeat (first | apply Kd.R_alloc | apply Kd.R_drewN | apply Kd.R_drew)); exact Kd.R_mono HO_4.out (fun _ hk => hk.2)⟩, ⟨zcj_25⟩, ⟨zcj_17⟩, ⟨zcj_26⟩⟩
 }
 {
 rw [if_neg c16] at H
 exact absurd H (by simp)
 }
 }
 }
 {
 rw [if_neg c11] at H
 exact absurd H (by simp)
 }
 }
 {
 rw [if_neg c10] at H
 have c10b0 : decide (x5_1 < (t587.length : Int)) = false := decide_eq_false c10
 clear c10
 simp only [Option.some.injEq, Prod.mk.injEq] at H
 obtain ⟨rfl, rfl⟩ := H
 obtain ⟨Ao20, co20, eo20⟩ := Kd.R_slice HO_4.out
 subst eo20
 go_wp2
 go_ret
 exact ⟨_, zcj_13, by (with_reducible repeat (first | apply Kd.R_alloc | apply Kd.R_drewN | apply Kd.R_drew)); exact Kd.R_mono HO_3.out (fun _ hk => trivial), zcj_25, zcj_26, zcj_17⟩
 }
 )
 )
end Go.Proofs.YtnkfbappnpnaoaaDoor.Q
namespace Go.Proofs.YtnkfbappnpnaoaaDoor.Q
open Go.RowKit Go.Proofs.YtnkfbappnpnaoaaDoorW.PrintWords Go.Proofs.YtnkfbappnpnaoaaDoorW.PrintLast Go.Proofs.YtnkfbappnpnaoaaDoorW.PrintMore
attribute [local go_sem] max2_int min2_int max_two min_two max_three min_three max_four min_four   -- for this text's walks alone
set_option linter.unusedVariables false
set_option linter.unusedSimpArgs false
def spec_DrawJournalText.f (k : Nat) (l0 : List Int) : Option ((List (S30))) := (spec_l20Open.f l0).bind fun bt597 => ((spec_l20Written.f k bt597.1 bt597.2).bind fun bt600 => ((spec_l20Rd_odd.f k bt597.1 bt600.2 12).bind fun bt604 => (if bt604.1 = true then (if bt600.1.length < 3518437208883 then (some (bt600.1 ++ [(⟨9, 0, 0, (⟨#[]⟩ : ByteArray)⟩ : S30)])) else (none)) else (some bt600.1))))
set_option maxHeartbeats 8000000 in
set_option maxRecDepth 100000 in
theorem spec_DrawJournalText.calls (k : Nat) (A0 : Option Addr) (c0 : Nat) (l0 : List Int) (r : List (S30)) (w : World) (hr0 : Kd.C (Kd.int .u8) w A0 l0.length l0) (hc0 : l0.length ≤ c0) (h : spec_DrawJournalText.f k l0 = some r) :
    Calls Tryd.prog 19 #[.slice A0 l0.length c0] w fun e w' => ∃ v0_ : Value, e = .returned (v0_) ∧ Kd.R k30 30 w' w.heap.size (fun _ => True) v0_ r ∧ Below w.heap.size w w' := by
 have hu30 := Tryd.underlying30
 have HR0 := Aside0.mk hr0
 have HC0 := Aside0.mk hc0
 clear hr0 hc0
 have HB := Aside0.mk (Below.refl w.heap.size w)
 have H : ((spec_l20Open.f l0).bind fun bt597 => ((spec_l20Written.f k bt597.1 bt597.2).bind fun bt600 => ((spec_l20Rd_odd.f k bt597.1 bt600.2 12).bind fun bt604 => (if bt604.1 = true then (if bt600.1.length < 3518437208883 then (some (bt600.1 ++ [(⟨9, 0, 0, (⟨#[]⟩ : ByteArray)⟩ : S30)])) else (none)) else (some bt600.1))))) = some r := h
 clear h
 replace H := Option.bind_eq_some_iff.mp H
 obtain ⟨⟨t597, t598⟩, A20, H⟩ := H
 try dsimp only at H
 have A2 := Aside0.mk A20
 clear A20
 replace H := Option.bind_eq_some_iff.mp H
 obtain ⟨⟨t600, t603⟩, A30, H⟩ := H
 try dsimp only at H
 have A3 := Aside0.mk A30
 clear A30
 replace H := Option.bind_eq_some_iff.mp H
 obtain ⟨⟨t604, t605⟩, A40, H⟩ := H
 try dsimp only at H
 have A4 := Aside0.mk A40
 clear A40
 by_cases c5 : t604 = true
 {
 subst c5
 rw [if_pos rfl] at H
 by_cases c6 : t600.length < 3518437208883
 {
 rw [if_pos c6] at H
 have LMc6 := Aside0.mk c6
 clear c6
 obtain ⟨y606, hy606⟩ : ∃ y_ : List (S30), y_ = (t600 ++ [(⟨9, 0, 0, (⟨#[]⟩ : ByteArray)⟩ : S30)]) := ⟨_, rfl⟩
 replace H : (some y606) = some r := by first | (rw [hy606]; with_reducible exact H) | (have H2_ := (Option.bind_some _ _).symm.trans H; rw [hy606]; with_reducible exact H2_) | (have H2_ := (Option.bind_some _ _).symm.trans H; with_reducible exact H2_) | with_reducible exact H | (rw [hy606]; exact H) | exact H
 have Ny606 := Aside0.mk hy606
 clear hy606
 obtain rfl := Option.some.inj H
 go_enter Tryd.func19, Tryd.ntmps19
 go_wp2_with (first | ((with_reducible refine gate_callee (f := 26) rfl ?_); refine goesL_ (some 6) rfl rfl Tryd.func26 (by kernel_rfl) rfl #[.slice A0 l0.length c0] rfl zcj_3 ?_; (with_reducible refine (spec_l20Open.calls _ _ l0 t597 t598 w _ ?side1 ?side2 ?side3 A2.out).mono ?_); (case side1 => exact zcj_5); (case side2 => exact HR0.out); (case side3 => exact HC0.out); rintro e w7 ⟨g599, rfl, hi, hb, hb2⟩; refine ⟨_, rfl, ?_⟩; refine zcj_f35 ?_; clear HB; intro HB HI599; (try clear hb); (try clear hb2); (try clear hk); (try clear hi)) | ((with_reducible refine gate_callee (f := 38) rfl ?_); refine goesL_ (some 8) rfl rfl Tryd.func38 (by kernel_rfl) rfl #[.pointer (some ⟨g599, 0, none⟩)] rfl zcj_3 ?_; (with_reducible refine (spec_l20Written.calls k g599 t597 t598 t600 t603 w _ ?side1 ?side2 A3.out).mono ?_); (case side1 => exact zcj_90); (case side2 => exact zcj_53); rintro e w8 ⟨v601, rfl, ho0, hi, hb, hk⟩; refine ⟨_, rfl, ?_⟩; refine zcj_f36 ?_; clear HB; clear HI599; intro HO602 HB HI599; (try clear hb); (try clear hb2); (try clear hk); (try clear hi); (try clear ho0)) | ((with_reducible refine gate_callee (f := 39) rfl ?_); refine goesL_ (some 10) rfl rfl Tryd.func39 (by kernel_rfl) rfl #[.pointer (some ⟨g599, 0, none⟩), .int .i64 12] rfl zcj_3 ?_; (with_reducible refine (spec_l20Rd_odd.calls k g599 t597 t603 12 true t605 w _ ?side1 ?side2 A4.out).mono ?_); (case side1 => exact zcj_90); (case side2 => exact zcj_53); rintro e w9 ⟨rfl, hi, hb, hk⟩; refine ⟨_, rfl, ?_⟩; refine zcj_f37 ?_; clear HO602; clear HB; clear HI599; intro HO602 HB HI599; (try clear hb); (try clear hb2); (try clear hk); (try clear hi)) | ((with_reducible refine gate_builtin (b := .append) (xs := #[.tmp 11, .tmp 13]) rfl ?_); at_builtin; refine Kd.R_append k30 (w0 := w) w.heap.size rfl (.tmp 11) (.tmp 13) 22 30 (.agg #[(.int .i64 0), (.int .i64 0), (.int .i64 0), (.string ⟨#[]⟩)]) 40 rfl Tryd.underlying22 info30 rfl (by decide) (by omega) v601 t600 (⟨9, 0, 0, (⟨#[]⟩ : ByteArray)⟩ : S30) [.int .i64 9, .int .i64 0, .int .i64 0, .string (⟨#[]⟩ : ByteArray)] (fun _ => True) (fun _ => False) rfl rfl ?aP (fun _ hk => hk.elim) ?aF ?aO ?aB ?aS ?aL ?_; (case aP => exact k30_mkM _ _ _ (⟨9, 0, 0, (⟨#[]⟩ : ByteArray)⟩ : S30)); (case aB => exact zcj_53); (case aF => exact zcj_87); (case aO => exact zcj_127); (case aS => exact (below_size zcj_53)); (case aL => have := LMc6.out; omega); intro v607 w10 ho hb hg hat; rw [← Ny606.out] at ho; have n0_ := Aside0.mk (IsS63.grown zcj_90 hg (IsS63.own_ne HI599.out HO602.out (by decide))); have n1_ := Aside0.mk (hb); have n2_ := Aside0.mk (ho); clear HI599; clear HB; clear HO602; have HI599 := n0_; have HB := n1_; have HO608 := n2_; clear n0_ n1_ n2_; clear ho hb hg hat))
 go_ret
 exact ⟨_, zcj_13, by (with_reducible repeat (first | apply Kd.R_alloc | apply Kd.R_drewN | apply Kd.R_drew)); exact HO608.out, zcj_53⟩
 }
 {
 rw [if_neg c6] at H
 exact absurd H (by simp)
 }
 }
 {
 replace c5 := Bool.eq_false_iff.mpr c5
 subst c5
 rw [if_neg (show ¬ (false = true) by decide)] at H
 obtain rfl := Option.some.inj H
 go_enter Tryd.func19, Tryd.ntmps19
 go_wp2_with (first | ((with_reducible refine gate_callee (f := 26) rfl ?_); refine goesL_ (some 6) rfl rfl Tryd.func26 (by kernel_rfl) rfl #[.slice A0 l0.length c0] rfl zcj_3 ?_; (with_reducible refine (spec_l20Open.calls _ _ l0 t597 t598 w _ ?side1 ?side2 ?side3 A2.out).mono ?_); (case side1 => exact zcj_5); (case side2 => exact HR0.out); (case side3 => exact HC0.out); rintro e w11 ⟨g599, rfl, hi, hb, hb2⟩; refine ⟨_, rfl, ?_⟩; refine zcj_f35 ?_; clear HB; intro HB HI599; (try clear hb); (try clear hb2); (try clear hk); (try clear hi)) | ((with_reducible refine gate_callee (f := 38) rfl ?_); refine goesL_ (some 8) rfl rfl Tryd.func38 (by kernel_rfl) rfl #[.pointer (some ⟨g599, 0, none⟩)] rfl zcj_3 ?_; (with_reducible refine (spec_l20Written.calls k g599 t597 t598 t600 t603 w _ ?side1 ?side2 A3.out).mono ?_); (case side1 => exact zcj_90); (case side2 => exact zcj_53); rintro e w12 ⟨v601, rfl, ho0, hi, hb, hk⟩; refine ⟨_, rfl, ?_⟩; refine zcj_f36 ?_; clear HB; clear HI599; intro HO602 HB HI599; (try clear hb); (try clear hb2); (try clear hk); (try clear hi); (try clear ho0)) | ((with_reducible refine gate_callee (f := 39) rfl ?_); refine goesL_ (some 10) rfl rfl Tryd.func39 (by kernel_rfl) rfl #[.pointer (some ⟨g599, 0, none⟩), .int .i64 12] rfl zcj_3 ?_; (with_reducible refine (spec_l20Rd_odd.calls k g599 t597 t603 12 false t605 w _ ?side1 ?side2 A4.out).mono ?_); (case side1 => exact zcj_90); (case side2 => exact zcj_53); rintro e w13 ⟨rfl, hi, hb, hk⟩; refine ⟨_, rfl, ?_⟩; refine zcj_f37 ?_; clear HO602; clear HB; clear HI599; intro HO602 HB HI599; (try clear hb); (try clear hb2); (try clear hk); (try clear hi)))
 go_ret
 exact ⟨_, zcj_13, zcj_127, zcj_53⟩
 }
end Go.Proofs.YtnkfbappnpnaoaaDoor.Q
namespace Go.Proofs.YtnkfbappnpnaoaaDoor.Q
open Go.RowKit Go.Proofs.YtnkfbappnpnaoaaDoorW.PrintWords Go.Proofs.YtnkfbappnpnaoaaDoorW.PrintLast Go.Proofs.YtnkfbappnpnaoaaDoorW.PrintMore
attribute [local go_sem] max2_int min2_int max_two min_two max_three min_three max_four min_four   -- for this text's walks alone
set_option linter.unusedVariables false
set_option linter.unusedSimpArgs false
def spec_JournalText.l0 : Nat → List (S30) → ByteArray → Int → Option (ByteArray)
  | 0, _, _, _ => none
  | k + 1, x0, x3, x4 => if x4 < (x0.length : Int) then (if 0 ≤ x4 then ((spec_DeedText.f k ((rd_T30 x0 x4).f0) ((rd_T30 x0 x4).f1) ((rd_T30 x0 x4).f2) ((rd_T30 x0 x4).f3)).bind fun t613 => (if t613.toList = ([] : List UInt8) then (some (⟨#[]⟩ : ByteArray)) else ((spec_DeedText.f k ((rd_T30 x0 x4).f0) ((rd_T30 x0 x4).f1) ((rd_T30 x0 x4).f2) ((rd_T30 x0 x4).f3)).bind fun t615 => (if x3.size + t615.size ≤ 9223372036854775807 then (if (x3 ++ t615).size + 1 ≤ 9223372036854775807 then (spec_JournalText.l0 k x0 ((x3 ++ t615) ++ (⟨#[10]⟩ : ByteArray)) (wrap64 (x4 + 1))) else (none)) else (none))))) else (none)) else (some x3)
def spec_JournalText.f (k : Nat) (l0 : List (S30)) : Option (ByteArray) := spec_JournalText.l0 k l0 (⟨#[]⟩ : ByteArray) 0
set_option maxHeartbeats 8000000 in
set_option maxRecDepth 100000 in
theorem spec_JournalText.calls (k : Nat) (A0 : Option Addr) (c0 : Nat) (l0 : List (S30)) (r : ByteArray) (w : World) (hr0 : Kd.C k30 w A0 l0.length l0) (hc0 : l0.length ≤ c0) (h : spec_JournalText.f k l0 = some r) :
    Calls Tryd.prog 21 #[.slice A0 l0.length c0] w fun e w' => e = .returned (.string r) ∧ Below w.heap.size w w' := by
 have hu30 := Tryd.underlying30
 have HR0 := Aside0.mk hr0
 have HC0 := Aside0.mk hc0
 clear hr0 hc0
 have HB := Aside0.mk (Below.refl w.heap.size w)
 have H : (spec_JournalText.l0 k l0 (⟨#[]⟩ : ByteArray) 0) = some r := h
 clear h
 have H' := Aside0.mk H
 clear H
 go_enter Tryd.func21, Tryd.ntmps21
 go_wp2
 go_loopg [3, 4] k (fun kq v3 v4 w' => ∃ (x3_1 : ByteArray) (x4_1 : Int), v3 = .string x3_1 ∧ v4 = .int .i64 x4_1 ∧ Aside0 (spec_JournalText.l0 kq l0 x3_1 x4_1 = some r) ∧ Aside0 (kq ≤ k) ∧ Aside0 (Below w.heap.size w w'))
 case atStart => exact ⟨((⟨#[]⟩ : ByteArray)), (0), zcj_4, zcj_4, H', ⟨Nat.le_refl _⟩, ⟨zcj_5⟩⟩
 case round =>(
 clear H'
 obtain ⟨x3_1, x4_1, rfl, rfl, HA, HK1, HB⟩ := hrel
 cases gk with
 | zero => exact absurd HA.out (by simp [spec_JournalText.l0])
 | succ k1 =>(
 have H := HA.out
 clear HA
 simp only [spec_JournalText.l0] at H
 by_cases c2 : x4_1 < (l0.length : Int)
 {
 rw [if_pos c2] at H
 have c2b0 : decide (x4_1 < (l0.length : Int)) = true := decide_eq_true c2
 clear c2
 by_cases c3 : 0 ≤ x4_1
 {
 rw [if_pos c3] at H
 have c3b0 : decide (0 ≤ x4_1) = true := decide_eq_true c3
 clear c3
 replace H := Option.bind_eq_some_iff.mp H
 obtain ⟨t613, A40, H⟩ := H
 try dsimp only at H
 have A4 := Aside0.mk A40
 clear A40
 by_cases c5 : t613.toList = ([] : List UInt8)
 {
 rw [if_pos c5] at H
 have c5b0 : (t613.toList == ([] : List UInt8)) = true := beq_iff_eq.mpr c5
 have c5b1 : (t613.toList != ([] : List UInt8)) = false := bne_eq_false_iff_eq.mpr c5
 clear c5
 obtain rfl := Option.some.inj H
 have p612 : 0 ≤ (x4_1 : Int) := of_decide_eq_true zcj_2
 have q612 : x4_1 < (l0.length : Int) := of_decide_eq_true zcj_2
 obtain ⟨ad612, e612, hx612_0, hx612_1, hx612_2, hx612_3⟩ := at_T30 HR0.out x4_1 p612 q612
 cases e612
 replace hx612_0 := (HB.out.cell (World.block_lt_of_cell? w _ hx612_0)).trans hx612_0
 replace hx612_1 := (HB.out.cell (World.block_lt_of_cell? w _ hx612_1)).trans hx612_1
 replace hx612_2 := (HB.out.cell (World.block_lt_of_cell? w _ hx612_2)).trans hx612_2
 replace hx612_3 := (HB.out.cell (World.block_lt_of_cell? w _ hx612_3)).trans hx612_3
 replace p612 := eq_true p612
 replace q612 := eq_true q612
 go_wp2_with (first | ((with_reducible refine gate_callee (f := 14) rfl ?_); refine goesL_ (some 15) rfl rfl Tryd.func14 (by kernel_rfl) rfl #[.agg #[.int .i64 ((rd_T30 l0 x4_1).f0), .int .i64 ((rd_T30 l0 x4_1).f1), .int .i64 ((rd_T30 l0 x4_1).f2), .string ((rd_T30 l0 x4_1).f3)]] rfl zcj_3 ?_; (with_reducible refine (spec_DeedText.calls k1 ((rd_T30 l0 x4_1).f0) ((rd_T30 l0 x4_1).f1) ((rd_T30 l0 x4_1).f2) ((rd_T30 l0 x4_1).f3) t613 _ A4.out).mono ?_); rintro e w6 ⟨rfl, hb⟩; refine ⟨_, rfl, ?_⟩; have n0_ := Aside0.mk (below_step zcj_5 hb); clear HB; have HB := n0_; clear n0_; (try clear hb); (try clear hb2); (try clear hk); (try clear hi)))
 go_ret
 exact ⟨zcj_13, zcj_5⟩
 }
 {
 rw [if_neg c5] at H
 have c5b0 : (t613.toList == ([] : List UInt8)) = false := beq_eq_false_iff_ne.mpr c5
 have c5b1 : (t613.toList != ([] : List UInt8)) = true := bne_iff_ne.mpr c5
 replace H := Option.bind_eq_some_iff.mp H
 obtain ⟨t615, A70, H⟩ := H
 try dsimp only at H
 have A7 := Aside0.mk A70
 clear A70
 by_cases c8 : x3_1.size + t615.size ≤ 9223372036854775807
 {
 rw [if_pos c8] at H
 have c8b0 := eq_true c8
 have c8b1 : decide (x3_1.size + t615.size ≤ 9223372036854775807) = true := decide_eq_true c8
 try have c8b2 : (9223372036854775807 < x3_1.size + t615.size) = False := eq_false (Nat.not_lt.2 c8)
 by_cases c9 : (x3_1 ++ t615).size + 1 ≤ 9223372036854775807
 {
 rw [if_pos c9] at H
 have c9z : x3_1.size + t615.size + 1 ≤ 9223372036854775807 := by{
 have h_ := c9
 simp only [ByteArray.size_append] at h_
 exact h_
 }
 have c9y : (9223372036854775807 < x3_1.size + t615.size + 1) = False := eq_false (Nat.not_lt.2 c9z)
 have c9b0 := eq_true c9
 have c9b1 : decide ((x3_1 ++ t615).size + 1 ≤ 9223372036854775807) = true := decide_eq_true c9
 try have c9b2 : (9223372036854775807 < (x3_1 ++ t615).size + 1) = False := eq_false (Nat.not_lt.2 c9)
 have H' := Aside0.mk H
 clear H
 have p612 : 0 ≤ (x4_1 : Int) := of_decide_eq_true zcj_2
 have q612 : x4_1 < (l0.length : Int) := of_decide_eq_true zcj_2
 obtain ⟨ad612, e612, hx612_0, hx612_1, hx612_2, hx612_3⟩ := at_T30 HR0.out x4_1 p612 q612
 cases e612
 replace hx612_0 := (HB.out.cell (World.block_lt_of_cell? w _ hx612_0)).trans hx612_0
 replace hx612_1 := (HB.out.cell (World.block_lt_of_cell? w _ hx612_1)).trans hx612_1
 replace hx612_2 := (HB.out.cell (World.block_lt_of_cell? w _ hx612_2)).trans hx612_2
 replace hx612_3 := (HB.out.cell (World.block_lt_of_cell? w _ hx612_3)).trans hx612_3
 replace p612 := eq_true p612
 replace q612 := eq_true q612
 go_wp2_with (first | ((with_reducible refine gate_callee (f := 14) rfl ?_); refine goesL_ (some 15) rfl rfl Tryd.func14 (by kernel_rfl) rfl #[.agg #[.int .i64 ((rd_T30 l0 x4_1).f0), .int .i64 ((rd_T30 l0 x4_1).f1), .int .i64 ((rd_T30 l0 x4_1).f2), .string ((rd_T30 l0 x4_1).f3)]] rfl zcj_3 ?_; (with_reducible refine (spec_DeedText.calls k1 ((rd_T30 l0 x4_1).f0) ((rd_T30 l0 x4_1).f1) ((rd_T30 l0 x4_1).f2) ((rd_T30 l0 x4_1).f3) t613 _ A4.out).mono ?_); rintro e w10 ⟨rfl, hb⟩; refine ⟨_, rfl, ?_⟩; have n0_ := Aside0.mk (below_step zcj_5 hb); clear HB; have HB := n0_; clear n0_; (try clear hb); (try clear hb2); (try clear hk); (try clear hi); have p614 : 0 ≤ (x4_1 : Int) := of_decide_eq_true zcj_2; have q614 : x4_1 < (l0.length : Int) := of_decide_eq_true zcj_2; obtain ⟨ad614, e614, hx614_0, hx614_1, hx614_2, hx614_3⟩ := at_T30 HR0.out x4_1 p614 q614; obtain rfl : ad612 = ad614 := (by injection e614); replace hx614_0 := (HB.out.cell (World.block_lt_of_cell? w _ hx614_0)).trans hx614_0; replace hx614_1 := (HB.out.cell (World.block_lt_of_cell? w _ hx614_1)).trans hx614_1; replace hx614_2 := (HB.out.cell (World.block_lt_of_cell? w _ hx614_2)).trans hx614_2; replace hx614_3 := (HB.out.cell (World.block_lt_of_cell? w _ hx614_3)).trans hx614_3; replace p614 := eq_true p614; replace q614 := eq_true q614) | ((with_reducible refine gate_callee (f := 14) rfl ?_); refine goesL_ (some 22) rfl rfl Tryd.func14 (by kernel_rfl) rfl #[.agg #[.int .i64 ((rd_T30 l0 x4_1).f0), .int .i64 ((rd_T30 l0 x4_1).f1), .int .i64 ((rd_T30 l0 x4_1).f2), .string ((rd_T30 l0 x4_1).f3)]] rfl zcj_3 ?_; (with_reducible refine (spec_DeedText.calls k1 ((rd_T30 l0 x4_1).f0) ((rd_T30 l0 x4_1).f1) ((rd_T30 l0 x4_1).f2) ((rd_T30 l0 x4_1).f3) t615 _ A7.out).mono ?_); rintro e w11 ⟨rfl, hb⟩; refine ⟨_, rfl, ?_⟩; have n0_ := Aside0.mk (below_step zcj_5 hb); clear HB; have HB := n0_; clear n0_; (try clear hb); (try clear hb2); (try clear hk); (try clear hi)))
 go_roundg k1
 case measure => have := HK1.out; omega
 case rel => exact ⟨((x3_1 ++ t615) ++ (⟨#[10]⟩ : ByteArray)), (wrap64 (x4_1 + 1)), zcj_4, zcj_4, H', ⟨by have := HK1.out; omega⟩, ⟨zcj_5⟩⟩
 }
 {
 rw [if_neg c9] at H
 exact absurd H (by simp)
 }
 }
 {
 rw [if_neg c8] at H
 exact absurd H (by simp)
 }
 }
 }
 {
 rw [if_neg c3] at H
 exact absurd H (by simp)
 }
 }
 {
 rw [if_neg c2] at H
 have c2b0 : decide (x4_1 < (l0.length : Int)) = false := decide_eq_false c2
 clear c2
 obtain rfl := Option.some.inj H
 go_wp2
 go_ret
 exact ⟨zcj_13, zcj_5⟩
 }
 )
 )
end Go.Proofs.YtnkfbappnpnaoaaDoor.Q
