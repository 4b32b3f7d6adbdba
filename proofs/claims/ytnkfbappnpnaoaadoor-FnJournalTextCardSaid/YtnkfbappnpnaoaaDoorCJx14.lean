/- A part of this claim's proof: functions of the program as plain functions, with the proof that the code comes to their answers, and facts about them. Condition: none of its own. -/
import Derived.Test.YtnkfbappnpnaoaaDoorCJx1
import Derived.Test.YtnkfbappnpnaoaaDoorCJx7
import Derived.Test.YtnkfbappnpnaoaaDoorCJz
namespace Go.Proofs.YtnkfbappnpnaoaaDoor.Q
open Go.RowKit Go.Proofs.YtnkfbappnpnaoaaDoorW.PrintWords Go.Proofs.YtnkfbappnpnaoaaDoorW.PrintLast Go.Proofs.YtnkfbappnpnaoaaDoorW.PrintMore
attribute [local go_sem] max2_int min2_int max_two min_two max_three min_three max_four min_four   -- for this text's walks alone
set_option linter.unusedVariables false
set_option linter.unusedSimpArgs false
def spec_l20House.l0 : Nat → Int → Int → List Int → Int → Int → List Int → Option (Int × List Int × Int)
  | 0, _, _, _, _, _, _ => none
  | k + 1, x1, x6, x1000, x1001, x417000, x417001 => if x6 > 0 then (if 0 ≤ x417000 then ((spec_l20Rd_pick.f k x1000 x1001 (wrap64 ((shl .i64 1 x417000) - 1))).bind fun bt419 => (if x417001.length < 17592186044416 then (spec_l20House.l0 k x1 (wrap64 (x6 - 1)) x1000 bt419.2 x417000 (x417001 ++ [wrap64 (1 + bt419.1)])) else (none))) else (none)) else ((spec_l20Rd_odd.f k x1000 x1001 x1).bind fun bt424 => (if bt424.1 = true then ((spec_l20Rd_pick.f k x1000 bt424.2 3).bind fun bt426 => (if bt426.1 = 0 then ((some (([0, 7] : List Int) : List Int)).bind fun y428 => ((spec_l20Rd_pick.f k x1000 bt426.2 2).bind fun bt431 => (if 0 ≤ bt431.1 then (if bt431.1 < (y428.length : Int) then (some (rd y428 bt431.1, x417001, bt431.2)) else (none)) else (none)))) else (if bt426.1 = 1 then (if x417001.length < 17592186044416 then (some (x417000, (x417001 ++ [0]), bt426.2)) else (none)) else (some (x417000, (([] : List Int)), bt426.2))))) else (some (x417000, x417001, bt424.2))))
def spec_l20House.f (k : Nat) (s0_0 : List Int) (s0_1 : Int) (a1 : Int) : Option (Int × List Int × Int) := (spec_l20Rd_pick.f k s0_0 s0_1 5).bind fun bt412 => ((spec_l20Rd_pick.f k s0_0 bt412.2 9).bind fun bt414 => ((spec_l20Rd_pick.f k s0_0 bt414.2 3).bind fun bt417 => (spec_l20House.l0 k a1 (wrap64 (1 + bt417.1)) s0_0 bt417.2 (wrap64 ((wrap64 (1 + bt412.1)) + (wrap64 (Int.tdiv bt414.1 8)))) ([] : List Int))))
def spec_l20House.T5 : Bool × List (List Nat × List Nat) := (true, [([], []), ([0], [0]), ([], []), ([], []), ([3], [3]), ([4], [4]), ([5], [5]), ([2, 6], [2, 6]), ([7], [7]), ([8], [8]), ([1, 9, 7], [1, 9]), ([0, 1, 2, 3, 4, 5, 6, 7, 8, 9, 10], []), ([11, 10, 10, 0, 1, 2, 3, 4, 5, 6, 7, 8, 9, 10], [10, 11])])
def spec_l20House.B5 : List Nat := [0, 1, 0, 0, 8, 24, 56, 124, 252, 508, 1023, 2047, 4095]
theorem spec_l20House.tab5 : rtab .any (opsOf Tryd.f43 5) = spec_l20House.T5 := by kernel_rfl
theorem spec_l20House.bits5 : waitsOk spec_l20House.T5.2 spec_l20House.B5 = true := by kernel_rfl
set_option maxHeartbeats 8000000 in
set_option maxRecDepth 100000 in
theorem spec_l20House.calls (k : Nat) (g : Nat) (s0_0 : List Int) (s0_1 : Int) (a1 : Int) (r1 : Int) (r2 : List Int) (r3 : Int) (w0 w : World) (hI : IsS63 w0 w g s0_0 s0_1) (hB : Below w0.heap.size w0 w) (h : spec_l20House.f k s0_0 s0_1 a1 = some (r1, r2, r3)) :
    Calls Tryd.prog 43 #[.pointer (some ⟨g, 0, none⟩), .int .i64 a1] w fun e w' => ∃ v1_ : Value, e = .returned (.agg #[.int .i64 r1, v1_]) ∧ Kd.R (Kd.int .i64) 3 w' w.heap.size (fun _ => True) v1_ r2 ∧ IsS63 w0 w' g s0_0 r3 ∧ Below w0.heap.size w0 w' ∧ KeepBut w w' g none := by
 have hu47 := Tryd.underlying47
 have HI0 := Aside0.mk hI
 have HK := Aside0.mk (KeepBut.refl w g none)
 have HL := Aside0.mk hB.size
 clear hI
 have HW0 := Aside0.mk hB.size
 have HB := Aside0.mk hB
 clear hB
 have H : ((spec_l20Rd_pick.f k s0_0 s0_1 5).bind fun bt412 => ((spec_l20Rd_pick.f k s0_0 bt412.2 9).bind fun bt414 => ((spec_l20Rd_pick.f k s0_0 bt414.2 3).bind fun bt417 => (spec_l20House.l0 k a1 (wrap64 (1 + bt417.1)) s0_0 bt417.2 (wrap64 ((wrap64 (1 + bt412.1)) + (wrap64 (Int.tdiv bt414.1 8)))) ([] : List Int))))) = some (r1, r2, r3) := h
 clear h
 replace H := Option.bind_eq_some_iff.mp H
 obtain ⟨⟨t412, t413⟩, A30, H⟩ := H
 replace H : ((spec_l20Rd_pick.f k s0_0 t413 9).bind fun bt414 => ((spec_l20Rd_pick.f k s0_0 bt414.2 3).bind fun bt417 => (spec_l20House.l0 k a1 (wrap64 (1 + bt417.1)) s0_0 bt417.2 (wrap64 ((wrap64 (1 + t412)) + (wrap64 (Int.tdiv bt414.1 8)))) ([] : List Int)))) = some (r1, r2, r3) := H
 have A3 := Aside0.mk A30
 clear A30
 replace H := Option.bind_eq_some_iff.mp H
 obtain ⟨⟨t414, t415⟩, A40, H⟩ := H
 replace H : ((spec_l20Rd_pick.f k s0_0 t415 3).bind fun bt417 => (spec_l20House.l0 k a1 (wrap64 (1 + bt417.1)) s0_0 bt417.2 (wrap64 ((wrap64 (1 + t412)) + (wrap64 (Int.tdiv t414 8)))) ([] : List Int))) = some (r1, r2, r3) := H
 have A4 := Aside0.mk A40
 clear A40
 replace H := Option.bind_eq_some_iff.mp H
 obtain ⟨⟨t417, t418⟩, A50, H⟩ := H
 replace H : (spec_l20House.l0 k a1 (wrap64 (1 + t417)) s0_0 t418 (wrap64 ((wrap64 (1 + t412)) + (wrap64 (Int.tdiv t414 8)))) ([] : List Int)) = some (r1, r2, r3) := H
 have A5 := Aside0.mk A50
 clear A50
 have H' := Aside0.mk H
 clear H
 go_enter Tryd.func43, Tryd.ntmps43
 go_wp2_with (first | ((with_reducible refine gate_dst (N := 4) rfl ?_); refine box_event ?hg (N := 4) ?hd (cs := #[.int .i64 0, .slice none 0 0]) (t := 47) ?hr ?_; (case hd => rfl); (case hg => rfl); (case hr => exact zcj_12); intro gb411 hg w6 hbox hb; have n0_ := Aside0.mk (IsS63.below zcj_25 hb); have n1_ := Aside0.mk (KeepBut.trans zcj_17 (KeepBut.of_below hb g none) (.inl rfl)); have n2_ := Aside0.mk (below_step zcj_26 hb); have n3_ := Aside0.mk (hbox); have n4_ := Aside0.mk ((zcj_46 : w.heap.size ≤ gb411)); have n5_ := Aside0.mk ((Nat.le_trans HW0.out (zcj_46 : w.heap.size ≤ gb411) : w0.heap.size ≤ gb411)); have n6_ := Aside0.mk ((zcj_84 : g ≠ gb411)); have n7_ := Aside0.mk ((zcj_85 : gb411 ≠ g)); clear HI0; clear HK; clear HB; have HI0 := n0_; have HK := n1_; have HB := n2_; have BK411 := n3_; have GW411 := n4_; have GE411 := n5_; have NB0_411 := n6_; have NB411_0 := n7_; clear n0_ n1_ n2_ n3_ n4_ n5_ n6_ n7_; clear hb hbox hg) | ((with_reducible refine gate_callee (f := 34) rfl ?_); refine goesL_ (some 8) rfl rfl Tryd.func34 (by kernel_rfl) rfl #[.pointer (some ⟨g, 0, none⟩), .int .i64 5] rfl zcj_3 ?_; (with_reducible refine (spec_l20Rd_pick.calls k g s0_0 s0_1 5 t412 t413 w0 _ ?side1 ?side2 A3.out).mono ?_); (case side1 => exact zcj_119); (case side2 => exact zcj_120); rintro e w7 ⟨rfl, hi, hb, hk⟩; refine ⟨_, rfl, ?_⟩; refine zcj_f31 ?_; clear BK411; clear HK; clear HB; clear HI0; intro BK411 HK HB HI0; (try clear hb); (try clear hb2); (try clear hk); (try clear hi)) | ((with_reducible refine gate_callee (f := 34) rfl ?_); refine goesL_ (some 11) rfl rfl Tryd.func34 (by kernel_rfl) rfl #[.pointer (some ⟨g, 0, none⟩), .int .i64 9] rfl zcj_3 ?_; (with_reducible refine (spec_l20Rd_pick.calls k g s0_0 t413 9 t414 t415 w0 _ ?side1 ?side2 A4.out).mono ?_); (case side1 => exact zcj_119); (case side2 => exact zcj_120); rintro e w8 ⟨rfl, hi, hb, hk⟩; refine ⟨_, rfl, ?_⟩; refine zcj_f31 ?_; clear BK411; clear HK; clear HB; clear HI0; intro BK411 HK HB HI0; (try clear hb); (try clear hb2); (try clear hk); (try clear hi)) | ((with_reducible refine gate_dst (N := 5) rfl ?_); refine box_event ?hg (N := 5) ?hd (cs := #[.int .i64 0, .slice none 0 0]) (t := 47) ?hr ?_; (case hd => rfl); (case hg => rfl); (case hr => exact zcj_12); intro gb416 hg w9 hbox hb; have n0_ := Aside0.mk (IsS63.below zcj_119 hb); have n1_ := Aside0.mk (blk_below (g := gb411) (o := .cells #[.int .i64 0, .slice none 0 0] 47 (0, 0)) zcj_39 hb); have n2_ := Aside0.mk (KeepBut.trans zcj_103 (KeepBut.of_below hb g none) (.inl rfl)); have n3_ := Aside0.mk (below_step zcj_120 hb); have n4_ := Aside0.mk (hbox); have n5_ := Aside0.mk ((zcj_159 : w.heap.size ≤ gb416)); have n6_ := Aside0.mk ((Nat.le_trans HW0.out (zcj_159 : w.heap.size ≤ gb416) : w0.heap.size ≤ gb416)); have n7_ := Aside0.mk ((by rw [hg]; exact Nat.ne_of_lt (blk_lt (g := gb411) (o := .cells #[.int .i64 0, .slice none 0 0] 47 (0, 0)) zcj_39) : gb411 ≠ gb416)); have n8_ := Aside0.mk ((by rw [hg]; exact Nat.ne_of_gt (blk_lt (g := gb411) (o := .cells #[.int .i64 0, .slice none 0 0] 47 (0, 0)) zcj_39) : gb416 ≠ gb411)); have n9_ := Aside0.mk ((by rw [hg]; exact Nat.ne_of_lt (IsS63.lt (show IsS63 w0 _ g s0_0 t415 from by repeat (first | (with_reducible first | exact HI0.out | apply IsS63.alloc | apply IsS63.drewN | apply IsS63.drew | apply IsS63.set_1 | refine IsS63.far ?_ NB0_411.out _) | exact HI0.out))) : g ≠ gb416)); have n10_ := Aside0.mk ((by rw [hg]; exact Nat.ne_of_gt (IsS63.lt (show IsS63 w0 _ g s0_0 t415 from by repeat (first | (with_reducible first | exact HI0.out | apply IsS63.alloc | apply IsS63.drewN | apply IsS63.drew | apply IsS63.set_1 | refine IsS63.far ?_ NB0_411.out _) | exact HI0.out))) : gb416 ≠ g)); clear HI0; clear BK411; clear HK; clear HB; have HI0 := n0_; have BK411 := n1_; have HK := n2_; have HB := n3_; have BK416 := n4_; have GW416 := n5_; have GE416 := n6_; have NB411_416 := n7_; have NB416_411 := n8_; have NB0_416 := n9_; have NB416_0 := n10_; clear n0_ n1_ n2_ n3_ n4_ n5_ n6_ n7_ n8_ n9_ n10_; clear hb hbox hg; have hnb10 := NB416_411.out; have hnc10 := NB411_416.out; have hnb11 := NB416_0.out; have hnc11 := NB0_416.out; have hcz12_0 : w9.cell? ⟨gb416, 0, none⟩ = some (.int .i64 0) := (blk_cell BK416.out 0).trans rfl; have hcz12_1 : w9.cell? ⟨gb416, 1, none⟩ = some (.slice none 0 0) := (blk_cell BK416.out 1).trans rfl; have hfz12_0 := blk_frozen BK416.out 0; have hfz12_1 := blk_frozen BK416.out 1) | ((with_reducible refine gate_callee (f := 34) rfl ?_); refine goesL_ (some 16) rfl rfl Tryd.func34 (by kernel_rfl) rfl #[.pointer (some ⟨g, 0, none⟩), .int .i64 3] rfl zcj_3 ?_; (with_reducible refine (spec_l20Rd_pick.calls k g s0_0 t415 3 t417 t418 w0 _ ?side1 ?side2 A5.out).mono ?_); (case side1 => exact zcj_27); (case side2 => exact zcj_28); rintro e w13 ⟨rfl, hi, hb, hk⟩; refine ⟨_, rfl, ?_⟩; have n0_ := Aside0.mk (KeepBut.blk hk (g' := gb411) (o := .cells #[.int .i64 0, .slice none 0 0] 47 (0, 0)) (by (with_reducible repeat (first | refine blk_drewN ?_ _ | refine blk_drew ?_ | refine blk_alloc ?_ _)); refine blk_far ?_ NB411_416.out _; (with_reducible repeat (first | refine blk_drewN ?_ _ | refine blk_drew ?_ | refine blk_alloc ?_ _)); refine blk_far ?_ NB411_416.out _; (with_reducible repeat (first | refine blk_drewN ?_ _ | refine blk_drew ?_ | refine blk_alloc ?_ _)); exact BK411.out) NB411_0.out (by simp)); have n1_ := Aside0.mk (KeepBut.blk hk (g' := gb416) (o := .cells #[.int .i64 (wrap64 ((wrap64 (1 + t412)) + (wrap64 (Int.tdiv t414 8)))), .slice none 0 0] 47 (0, 0)) (by (with_reducible repeat (first | refine blk_drewN ?_ _ | refine blk_drew ?_ | refine blk_alloc ?_ _)); refine blk_put (cs := #[.int .i64 (wrap64 ((wrap64 (1 + t412)) + (wrap64 (Int.tdiv t414 8)))), .slice none 0 0]) ?_ 1 _ rfl; (with_reducible repeat (first | refine blk_drewN ?_ _ | refine blk_drew ?_ | refine blk_alloc ?_ _)); refine blk_put (cs := #[.int .i64 0, .slice none 0 0]) ?_ 0 _ rfl; (with_reducible repeat (first | refine blk_drewN ?_ _ | refine blk_drew ?_ | refine blk_alloc ?_ _)); exact BK416.out) NB416_0.out (by simp)); have n2_ := Aside0.mk (KeepBut.trans zcj_29 hk (.inl rfl)); have n3_ := Aside0.mk (hb); have n4_ := Aside0.mk (hi); clear BK411; clear BK416; clear HK; clear HB; clear HI0; have BK411 := n0_; have BK416 := n1_; have HK := n2_; have HB := n3_; have HI0 := n4_; clear n0_ n1_ n2_ n3_ n4_; (try clear hb); (try clear hb2); (try clear hk); (try clear hi)))
 go_loopg [6] k (fun kq v6 w' => ∃ (x6_1 : Int) (x1001_1 : Int) (x417001_1 : List Int) (u417001 : Value), v6 = .int .i64 x6_1 ∧ Aside0 (spec_l20House.l0 kq a1 x6_1 s0_0 x1001_1 (wrap64 ((wrap64 (1 + t412)) + (wrap64 (Int.tdiv t414 8)))) x417001_1 = some (r1, r2, r3)) ∧ Aside0 (kq ≤ k) ∧ Aside0 (Kd.R (Kd.int .i64) 3 w' w.heap.size (fun _ => True) u417001 x417001_1) ∧ Aside0 (w'.heap[gb411]? = some (.cells #[.int .i64 0, (.slice none 0 0)] 47 (0, 0))) ∧ Aside0 (w'.heap[gb416]? = some (.cells #[.int .i64 (wrap64 ((wrap64 (1 + t412)) + (wrap64 (Int.tdiv t414 8)))), u417001] 47 (0, 0))) ∧ Aside0 (IsS63 w0 w' g s0_0 x1001_1) ∧ Aside0 (KeepBut w w' g none) ∧ Aside0 (Below w0.heap.size w0 w'))
 case atStart => exact ⟨(wrap64 (1 + t417)), (t418), (([] : List Int)), (.slice none 0 0), zcj_4, H', ⟨Nat.le_refl _⟩, ⟨zcj_104⟩, ⟨zcj_39⟩, ⟨zcj_51⟩, ⟨zcj_27⟩, ⟨zcj_29⟩, ⟨zcj_28⟩⟩
 case round =>(
 clear H'
 try clear c1
 try clear p2
 try clear c3
 try clear c4
 try clear p6
 try clear c10
 try clear c11
 try clear hcz12_0
 try clear hcz12_1
 try clear hfz12_0
 try clear hfz12_1
 obtain ⟨x6_1, x1001_1, x417001_1, u417001, rfl, HA, HK1, HO_417001, BK411, BK416, HI0, HK, HB⟩ := hrel
 cases gk with
 | zero => exact absurd HA.out (by simp [spec_l20House.l0])
 | succ k1 =>(
 have H := HA.out
 clear HA
 simp only [spec_l20House.l0] at H
 by_cases c14 : x6_1 > 0
 {
 rw [if_pos c14] at H
 have c14b0 : decide (0 < x6_1) = true := decide_eq_true c14
 clear c14
 obtain ⟨ji15, hji15⟩ : ∃ j_ : Int, (wrap64 ((wrap64 (1 + t412)) + (wrap64 (Int.tdiv t414 8)))) = j_ := ⟨_, rfl⟩
 try rw [hji15] at BK411
 try rw [hji15] at BK416
 replace H : (if 0 ≤ (ji15) then ((spec_l20Rd_pick.f k1 s0_0 x1001_1 (wrap64 ((shl .i64 1 (ji15)) - 1))).bind fun bt419 => (if x417001_1.length < 17592186044416 then (spec_l20House.l0 k1 a1 (wrap64 (x6_1 - 1)) s0_0 bt419.2 (ji15) (x417001_1 ++ [wrap64 (1 + bt419.1)])) else (none))) else (none)) = some (r1, r2, r3) := by first | (rw [hji15] at H; exact H) | (simp only [hji15] at H ⊢; exact H)
 have hji15w : (IntKind.i64.wrap ((wrap64 (1 + t412)) + (wrap64 (Int.tdiv t414 8)))) = ji15 := (i64_w _).trans hji15
 by_cases c16 : 0 ≤ (ji15)
 {
 rw [if_pos c16] at H
 have c16b0 := eq_true c16
 have c16b1 : decide (0 ≤ (ji15)) = true := decide_eq_true c16
 clear c16
 obtain ⟨ji17, hji17⟩ : ∃ j_ : Int, (shl .i64 1 (ji15)) = j_ := ⟨_, rfl⟩
 replace H : ((spec_l20Rd_pick.f k1 s0_0 x1001_1 (wrap64 ((ji17) - 1))).bind fun bt419 => (if x417001_1.length < 17592186044416 then (spec_l20House.l0 k1 a1 (wrap64 (x6_1 - 1)) s0_0 bt419.2 (ji15) (x417001_1 ++ [wrap64 (1 + bt419.1)])) else (none))) = some (r1, r2, r3) := by first | (rw [hji17] at H; exact H) | (simp only [hji17] at H ⊢; exact H)
 have hji17_ : (IntKind.i64.wrap (1 * 2 ^ min (ji15).toNat 64)) = ji17 := hji17
 have hji17z : (ji15) ≤ 64 → (IntKind.i64.wrap (1 * 2 ^ (ji15).toNat)) = ji17 := shl_small hji17
 have hji17u : (IntKind.i64.wrap (2 ^ min (ji15).toNat 64)) = ji17 := by have h_ := hji17_; rw [Int.one_mul] at h_; exact h_
 have hji17v : (ji15) ≤ 64 → (IntKind.i64.wrap (2 ^ (ji15).toNat)) = ji17 := fun hle_ => by have h_ := hji17z hle_; rw [Int.one_mul] at h_; exact h_
 have hji17y : (wrap64 (1 * 2 ^ min (ji15).toNat 64)) = ji17 := (i64_w _).symm.trans hji17_
 have hji17x : (ji15) ≤ 64 → (wrap64 (1 * 2 ^ (ji15).toNat)) = ji17 := fun h_ => (i64_w _).symm.trans (hji17z h_)
 replace H := Option.bind_eq_some_iff.mp H
 obtain ⟨⟨t419, t420⟩, A180, H⟩ := H
 replace H : (if x417001_1.length < 17592186044416 then (spec_l20House.l0 k1 a1 (wrap64 (x6_1 - 1)) s0_0 t420 (ji15) (x417001_1 ++ [wrap64 (1 + t419)])) else (none)) = some (r1, r2, r3) := H
 have A18 := Aside0.mk A180
 clear A180
 by_cases c19 : x417001_1.length < 17592186044416
 {
 rw [if_pos c19] at H
 have LMc19 := Aside0.mk c19
 clear c19
 obtain ⟨y421, hy421⟩ : ∃ y_ : List Int, y_ = (x417001_1 ++ [wrap64 (1 + t419)]) := ⟨_, rfl⟩
 replace H : (spec_l20House.l0 k1 a1 (wrap64 (x6_1 - 1)) s0_0 t420 (ji15) y421) = some (r1, r2, r3) := by first | (rw [hy421]; with_reducible exact H) | (have H2_ := (Option.bind_some _ _).symm.trans H; rw [hy421]; with_reducible exact H2_) | (have H2_ := (Option.bind_some _ _).symm.trans H; with_reducible exact H2_) | with_reducible exact H | (rw [hy421]; exact H) | exact H
 have Ny421 := Aside0.mk hy421
 clear hy421
 have H' := Aside0.mk H
 clear H
 try go_wp2
 have n0_ := Aside0.mk (Kd.R_drew HO_417001.out)
 have n1_ := Aside0.mk (blk_drew BK411.out)
 have n2_ := Aside0.mk (blk_drew BK416.out)
 have n3_ := Aside0.mk (IsS63.drew HI0.out)
 have n4_ := Aside0.mk (keep_drew HK.out)
 have n5_ := Aside0.mk (below_drew1 HB.out)
 clear HO_417001
 clear BK411
 clear BK416
 clear HI0
 clear HK
 clear HB
 have HO_417001 := n0_
 have BK411 := n1_
 have BK416 := n2_
 have HI0 := n3_
 have HK := n4_
 have HB := n5_
 clear n0_ n1_ n2_ n3_ n4_ n5_
 refine start_ (n := 13) (S := fun w' => w'.cell? ⟨gb416, 0, none⟩ = some (.int .i64 (ji15)) ∧ w'.cell? ⟨gb416, 1, none⟩ = some (u417001)) (ds := [12]) #[false, false, false, false, false, false, false, false, false, false, false, false, false] (by kernel_rfl) rfl rfl ⟨(blk_cell BK416.out 0).trans (by first | rfl | (simp only [hji15]; rfl)), (blk_cell BK416.out 1).trans (by first | rfl | (simp only [hji15]; rfl))⟩ (fun hHeld => ?_); refine with_tabW spec_l20House.tab5 spec_l20House.bits5 (fun HT_ HW_ => ?_)
 generalize wr.drew = w20 at HO_417001 BK411 BK416 HI0 HK HB hHeld ⊢
 refine pure_ (i := 0) (N := some 22) (v := ?_) (a' := ?_) #[true, false, false, false, false, false, false, false, false, false, false, false, false] rfl rfl (any_of HT_.out (by kernel_rfl)) (fun _ _ _ h => h) (Or.inl ⟨by rfl, ?_⟩) ?_ ?_
 rotate_left
 {
 intro w'
 go_simp
 with_reducible rfl
 }
 rotate_left
 {exact zcj_1}
 refine pure_ (i := 2) (N := some 24) (v := ?_) (a' := ?_) #[true, false, true, false, false, false, false, false, false, false, false, false, false] rfl rfl (any_of HT_.out (by kernel_rfl)) (fun _ _ _ h => h) (Or.inl ⟨by rfl, ?_⟩) ?_ ?_
 rotate_left
 {
 intro w'
 go_simp
 with_reducible rfl
 }
 rotate_left
 {exact zcj_1}
 refine pure_ (i := 3) (N := some 25) (v := ?_) (a' := ?_) #[true, false, true, true, false, false, false, false, false, false, false, false, false] rfl rfl (any_of HT_.out (by kernel_rfl)) (fun _ _ _ h => h) (Or.inl ⟨by rfl, ?_⟩) ?_ ?_
 rotate_left
 {
 intro w'
 go_simp
 with_reducible rfl
 }
 rotate_left
 {exact zcj_1}
 refine take_ (i := 1) (N := some 23) (v := ?_) (a' := ?_) #[true, true, true, true, false, false, false, false, false, false, false, false, false] rfl rfl (take_ofW HT_.out HW_.out (by kernel_rfl)) (fun _ _ _ h => h) (Or.inl ⟨by rfl, ?_⟩) hHeld ?_ ?_
 rotate_left
 {
 rintro w' ⟨s0, s1⟩
 go_simp
 with_reducible rfl
 }
 rotate_left
 {exact zcj_1}
 refine take_ (i := 4) (N := some 26) (v := ?_) (a' := ?_) #[true, true, true, true, true, false, false, false, false, false, false, false, false] rfl rfl (take_ofW HT_.out HW_.out (by kernel_rfl)) (fun _ _ _ h => h) (Or.inl ⟨by rfl, ?_⟩) hHeld ?_ ?_
 rotate_left
 {
 rintro w' ⟨s0, s1⟩
 go_simp
 with_reducible rfl
 }
 rotate_left
 {exact zcj_1}
 refine pure_ (i := 5) (N := some 27) (v := ?_) (a' := ?_) #[true, true, true, true, true, true, false, false, false, false, false, false, false] rfl rfl (any_of HT_.out (by kernel_rfl)) (fun _ _ _ h => h) (Or.inl ⟨by rfl, ?_⟩) ?_ ?_
 rotate_left
 {
 intro w'
 go_simp
 with_reducible rfl
 }
 rotate_left
 {exact zcj_1}
 refine pure_ (i := 6) (N := some 28) (v := ?_) (a' := ?_) #[true, true, true, true, true, true, true, false, false, false, false, false, false] rfl rfl (any_of HT_.out (by kernel_rfl)) (fun _ _ _ h => h) (Or.inl ⟨by rfl, ?_⟩) ?_ ?_
 rotate_left
 {
 intro w'
 go_simp
 with_reducible rfl
 }
 rotate_left
 {exact zcj_1}
 refine one_ (i := 7) (N := some 29) #[true, true, true, true, true, true, true, true, false, false, false, false, false] rfl rfl (one_of HT_.out (by kernel_rfl)) (by decide) (fun K hK => ?_)
 refine goes_ Tryd.func34 (by kernel_rfl) rfl #[.pointer (some ⟨g, 0, none⟩), .int .i64 (wrap64 ((ji17) - 1))] (by rfl) rfl rfl (by (try simp only [List.map_toArray, List.map_cons, List.map_nil]); first | done | (simp only [hji17]; rfl) | rfl | (simp only [List.length_drop, List.length_take]; rfl)) ?_
 with_reducible refine (spec_l20Rd_pick.calls k1 g s0_0 x1001_1 (wrap64 ((ji17) - 1)) t419 t420 w0 _ ?side1 ?side2 A18.out).mono ?_
 (case side1 => exact zcj_27)
 (case side2 => exact zcj_28)
 rintro e w21 ⟨rfl, hi, hb, hk⟩
 refine ⟨_, rfl, ?_⟩
 have n0_ := Aside0.mk (Kd.R_mono (Kd.R_keep (IsS63.apart (show IsS63 w0 _ g s0_0 x1001_1 from by repeat (first | (with_reducible first | exact HI0.out | apply IsS63.alloc | apply IsS63.drewN | apply IsS63.drew | apply IsS63.set_1 | refine IsS63.far ?_ NB0_411.out _ | refine IsS63.far ?_ NB0_416.out _) | exact HI0.out)) zcj_47 (by decide)) hk (fun _ h => h.2)) (fun _ h => h.1))
 have n1_ := Aside0.mk (KeepBut.blk hk (g' := gb411) (o := .cells #[.int .i64 0, .slice none 0 0] 47 (0, 0)) zcj_39 NB411_0.out (by simp))
 have n2_ := Aside0.mk (KeepBut.blk hk (g' := gb416) (o := .cells #[.int .i64 (ji15), u417001] 47 (0, 0)) zcj_51 NB416_0.out (by simp))
 have n3_ := Aside0.mk (KeepBut.trans zcj_29 hk (.inl rfl))
 have n4_ := Aside0.mk (hb)
 have n5_ := Aside0.mk (hi)
 clear HO_417001
 clear BK411
 clear BK416
 clear HK
 clear HB
 clear HI0
 have HO_417001 := n0_
 have BK411 := n1_
 have BK416 := n2_
 have HK := n3_
 have HB := n4_
 have HI0 := n5_
 clear n0_ n1_ n2_ n3_ n4_ n5_
 (try clear hb)
 (try clear hb2)
 (try clear hk)
 (try clear hi)
 refine hK.out _ _ ⟨(blk_cell BK416.out 0).trans rfl, (blk_cell BK416.out 1).trans rfl⟩ (fun hHeld => ?_)
 clear hK K
 refine norm_ (a' := ?_) ?_ ?_
 rotate_left
 {show Act.put _ (some 29) _ = _; simp only [Act.put, List.setIfInBounds_toArray, List.set_cons_zero, List.set_cons_succ, i64_w, i32_w]; rfl}
 refine pure_ (i := 8) (N := some 30) (v := ?_) (a' := ?_) #[true, true, true, true, true, true, true, true, true, false, false, false, false] rfl rfl (any_of HT_.out (by kernel_rfl)) (fun _ _ _ h => h) (Or.inl ⟨by rfl, ?_⟩) ?_ ?_
 rotate_left
 {
 intro w'
 go_simp
 with_reducible rfl
 }
 rotate_left
 {exact zcj_1}
 refine one_ (i := 9) (N := some 31) #[true, true, true, true, true, true, true, true, true, true, false, false, false] rfl rfl (one_of HT_.out (by kernel_rfl)) (by decide) (fun K hK => ?_)
 refine value_ (w1 := ?_) (v := ?_) (by rfl) rfl ?_ ?_
 rotate_left 2
 {
 go_simp
 constructor
 {rfl}
 {rfl}
 }
 refine hK.out _ _ ⟨(blk_cell (blk_alloc BK416.out _) 0).trans rfl, (blk_cell (blk_alloc BK416.out _) 1).trans rfl⟩ (fun hHeld => ?_)
 clear hK K
 refine norm_ (a' := ?_) ?_ ?_
 rotate_left
 {show Act.put _ (some 31) _ = _; simp only [Act.put, List.setIfInBounds_toArray, List.set_cons_zero, List.set_cons_succ, i64_w, i32_w]; rfl}
 refine one_ (i := 10) (N := some 32) #[true, true, true, true, true, true, true, true, true, true, true, false, false] rfl rfl (one_of HT_.out (by kernel_rfl)) (by decide) (fun K hK => ?_)
 refine Kd.R_append_step (Kd.int .i64) w.heap.size (by rfl) (.tmp 23) (.tmp 31) 45 3 (.int .i64 0) 8 rfl Tryd.underlying45 info3 rfl (by decide) (by omega) u417001 x417001_1 (wrap64 (1 + t419)) [.int .i64 (wrap64 (1 + t419))] (fun _ => True) (fun _ => False) rfl rfl ?aP (fun _ hk => hk.elim) ?aF ?aO (Below.refl _ _) ?aS ?aL ?_
 (case aP => exact rfl)
 (case aF => exact zcj_87)
 (case aO => exact zcj_160)
 (case aS => exact zcj_161)
 (case aL => have := LMc19.out; omega)
 intro v422 w22 ho hb hg hat
 rw [← Ny421.out] at ho
 have n0_ := Aside0.mk (blk_grown (g := gb411) (o := .cells #[.int .i64 0, .slice none 0 0] 47 (0, 0)) zcj_39 hg (Kd.R_ne HO_417001.out BK411.out (by decide)))
 have n1_ := Aside0.mk (blk_grown (g := gb416) (o := .cells #[.int .i64 (ji15), u417001] 47 (0, 0)) zcj_51 hg (Kd.R_ne HO_417001.out BK416.out (by decide)))
 have n2_ := Aside0.mk (IsS63.grown zcj_27 hg (IsS63.own_ne HI0.out HO_417001.out (by decide)))
 have n3_ := Aside0.mk (below_weaken zcj_28 HL.out hb)
 have n4_ := Aside0.mk (KeepBut.trans zcj_29 (KeepBut.of_grown hg g) (Kd.R_base2 HO_417001.out))
 have n5_ := Aside0.mk (ho)
 clear BK411
 clear BK416
 clear HI0
 clear HB
 clear HK
 clear HO_417001
 have BK411 := n0_
 have BK416 := n1_
 have HI0 := n2_
 have HB := n3_
 have HK := n4_
 have HO423 := n5_
 clear n0_ n1_ n2_ n3_ n4_ n5_
 clear ho hb hg hat
 obtain ⟨Ao23, co23, eo23⟩ := Kd.R_slice HO423.out
 (first | subst eo23 | (injection eo23 with f1_ f2_ f3_; have f4_ := f1_.symm; have f5_ := f3_.symm; clear f1_ f2_ f3_; subst f4_; subst f5_))
 refine hK.out _ _ ⟨(blk_cell BK416.out 0).trans rfl, (blk_cell BK416.out 1).trans rfl⟩ (fun hHeld => ?_)
 clear hK K
 refine norm_ (a' := ?_) ?_ ?_
 rotate_left
 {show Act.put _ (some 32) _ = _; simp only [Act.put, List.setIfInBounds_toArray, List.set_cons_zero, List.set_cons_succ, i64_w, i32_w]; rfl}
 refine pure_ (i := 11) (N := some 33) (v := ?_) (a' := ?_) #[true, true, true, true, true, true, true, true, true, true, true, true, false] rfl rfl (any_of HT_.out (by kernel_rfl)) (fun _ _ _ h => h) (Or.inl ⟨by rfl, ?_⟩) ?_ ?_
 rotate_left
 {
 intro w'
 go_simp
 with_reducible rfl
 }
 rotate_left
 {exact zcj_1}
 refine last_ (i := 12) (N := none) #[true, true, true, true, true, true, true, true, true, true, true, true, true] rfl rfl (one_of HT_.out (by kernel_rfl)) (by decide) (fun K hK => ?_)
 have hs24 : w22.cell? ⟨gb416, 1, none⟩ = some (u417001) := (blk_cell BK416.out 1).trans rfl
 have hfs24 := blk_frozen BK416.out 1
 have hns24_0 := NB411_416.out
 have hms24_0 := NB416_411.out
 refine skip_ (w1 := ?_) (by rfl) rfl ?_ ?_
 rotate_left
 {go_simp; rfl}
 refine hK.out _ _ ?_
 clear hK K
 refine done_ (done_of HT_.out (by kernel_rfl)) ?_
 try go_wp2
 go_roundg k1
 case measure => have := HK1.out; omega
 case rel => subst hji15; exact ⟨(wrap64 (x6_1 - 1)), (t420), (y421), (.slice Ao23 y421.length co23), zcj_4, H', ⟨by have := HK1.out; omega⟩, ⟨by (with_reducible repeat (first | apply Kd.R_alloc | apply Kd.R_drewN | apply Kd.R_drew)); exact Kd.R_mono (Kd.R_far (p := ⟨gb416, 1, none⟩) (Kd.R_types HO423.out BK416.out (by decide)) (fun _ hk => hk.2) (.slice Ao23 y421.length co23)) (fun _ hk => trivial)⟩, ⟨by (with_reducible repeat (first | refine blk_drewN ?_ _ | refine blk_drew ?_ | refine blk_alloc ?_ _)); refine blk_far ?_ NB411_416.out _; (with_reducible repeat (first | refine blk_drewN ?_ _ | refine blk_drew ?_ | refine blk_alloc ?_ _)); exact BK411.out⟩, ⟨by (with_reducible repeat (first | refine blk_drewN ?_ _ | refine blk_drew ?_ | refine blk_alloc ?_ _)); refine blk_put (cs := #[.int .i64 ((wrap64 ((wrap64 (1 + t412)) + (wrap64 (Int.tdiv t414 8))))), u417001]) ?_ 1 _ rfl; (with_reducible repeat (first | refine blk_drewN ?_ _ | refine blk_drew ?_ | refine blk_alloc ?_ _)); exact BK416.out⟩, ⟨zcj_27⟩, ⟨zcj_29⟩, ⟨zcj_28⟩⟩
 }
 {
 rw [if_neg c19] at H
 exact absurd H (by simp)
 }
 }
 {
 rw [if_neg c16] at H
 exact absurd H (by simp)
 }
 }
 {
 rw [if_neg c14] at H
 have c14b0 : decide (0 < x6_1) = false := decide_eq_false c14
 clear c14
 replace H := Option.bind_eq_some_iff.mp H
 obtain ⟨⟨t424, t425⟩, A250, H⟩ := H
 replace H : (if t424 = true then ((spec_l20Rd_pick.f k1 s0_0 t425 3).bind fun bt426 => (if bt426.1 = 0 then ((some (([0, 7] : List Int) : List Int)).bind fun y428 => ((spec_l20Rd_pick.f k1 s0_0 bt426.2 2).bind fun bt431 => (if 0 ≤ bt431.1 then (if bt431.1 < (y428.length : Int) then (some (rd y428 bt431.1, x417001_1, bt431.2)) else (none)) else (none)))) else (if bt426.1 = 1 then (if x417001_1.length < 17592186044416 then (some ((wrap64 ((wrap64 (1 + t412)) + (wrap64 (Int.tdiv t414 8)))), (x417001_1 ++ [0]), bt426.2)) else (none)) else (some ((wrap64 ((wrap64 (1 + t412)) + (wrap64 (Int.tdiv t414 8)))), (([] : List Int)), bt426.2))))) else (some ((wrap64 ((wrap64 (1 + t412)) + (wrap64 (Int.tdiv t414 8)))), x417001_1, t425))) = some (r1, r2, r3) := H
 have A25 := Aside0.mk A250
 clear A250
 by_cases c26 : t424 = true
 {
 subst c26
 have H1 : ((spec_l20Rd_pick.f k1 s0_0 t425 3).bind fun bt426 => (if bt426.1 = 0 then ((some (([0, 7] : List Int) : List Int)).bind fun y428 => ((spec_l20Rd_pick.f k1 s0_0 bt426.2 2).bind fun bt431 => (if 0 ≤ bt431.1 then (if bt431.1 < (y428.length : Int) then (some (rd y428 bt431.1, x417001_1, bt431.2)) else (none)) else (none)))) else (if bt426.1 = 1 then (if x417001_1.length < 17592186044416 then (some ((wrap64 ((wrap64 (1 + t412)) + (wrap64 (Int.tdiv t414 8)))), (x417001_1 ++ [0]), bt426.2)) else (none)) else (some ((wrap64 ((wrap64 (1 + t412)) + (wrap64 (Int.tdiv t414 8)))), (([] : List Int)), bt426.2))))) = some (r1, r2, r3) := by rw [if_pos rfl] at H; exact H
 clear H
 have H := H1
 clear H1
 replace H := Option.bind_eq_some_iff.mp H
 obtain ⟨⟨t426, t427⟩, A270, H⟩ := H
 replace H : (if t426 = 0 then ((some (([0, 7] : List Int) : List Int)).bind fun y428 => ((spec_l20Rd_pick.f k1 s0_0 t427 2).bind fun bt431 => (if 0 ≤ bt431.1 then (if bt431.1 < (y428.length : Int) then (some (rd y428 bt431.1, x417001_1, bt431.2)) else (none)) else (none)))) else (if t426 = 1 then (if x417001_1.length < 17592186044416 then (some ((wrap64 ((wrap64 (1 + t412)) + (wrap64 (Int.tdiv t414 8)))), (x417001_1 ++ [0]), t427)) else (none)) else (some ((wrap64 ((wrap64 (1 + t412)) + (wrap64 (Int.tdiv t414 8)))), (([] : List Int)), t427)))) = some (r1, r2, r3) := H
 have A27 := Aside0.mk A270
 clear A270
 by_cases c28 : t426 = 0
 {
 rw [if_pos c28] at H
 have c28b0 : (t426 == 0) = true := beq_iff_eq.mpr c28
 have c28b1 : (t426 != 0) = false := bne_eq_false_iff_eq.mpr c28
 clear c28
 obtain ⟨y428, hy428⟩ : ∃ y_ : List Int, y_ = (([0, 7] : List Int)) := ⟨_, rfl⟩
 replace H : ((spec_l20Rd_pick.f k1 s0_0 t427 2).bind fun bt431 => (if 0 ≤ bt431.1 then (if bt431.1 < (y428.length : Int) then (some (rd y428 bt431.1, x417001_1, bt431.2)) else (none)) else (none))) = some (r1, r2, r3) := by first | (rw [hy428]; with_reducible exact H) | (have H2_ := (Option.bind_some _ _).symm.trans H; rw [hy428]; with_reducible exact H2_) | (have H2_ := (Option.bind_some _ _).symm.trans H; with_reducible exact H2_) | with_reducible exact H | (rw [hy428]; exact H) | exact H
 have Ny428 := Aside0.mk hy428
 clear hy428
 replace H := Option.bind_eq_some_iff.mp H
 obtain ⟨⟨t431, t432⟩, A290, H⟩ := H
 replace H : (if 0 ≤ t431 then (if t431 < (y428.length : Int) then (some (rd y428 t431, x417001_1, t432)) else (none)) else (none)) = some (r1, r2, r3) := H
 have A29 := Aside0.mk A290
 clear A290
 by_cases c30 : 0 ≤ t431
 {
 rw [if_pos c30] at H
 have c30b0 : decide (0 ≤ t431) = true := decide_eq_true c30
 clear c30
 by_cases c31 : t431 < (y428.length : Int)
 {
 rw [if_pos c31] at H
 have c31b0 : decide (t431 < (y428.length : Int)) = true := decide_eq_true c31
 clear c31
 simp only [Option.some.injEq, Prod.mk.injEq] at H
 obtain ⟨rfl, rfl, rfl⟩ := H
 go_wp2_with (first | ((with_reducible refine gate_callee (f := 39) rfl ?_); refine goesL_ (some 36) rfl rfl Tryd.func39 (by kernel_rfl) rfl #[.pointer (some ⟨g, 0, none⟩), .int .i64 a1] rfl zcj_3 ?_; (with_reducible refine (spec_l20Rd_odd.calls k1 g s0_0 x1001_1 a1 true t425 w0 _ ?side1 ?side2 A25.out).mono ?_); (case side1 => exact zcj_27); (case side2 => exact zcj_28); rintro e w32 ⟨rfl, hi, hb, hk⟩; refine ⟨_, rfl, ?_⟩; refine zcj_f7 ?_; clear HO_417001; clear BK411; clear BK416; clear HK; clear HB; clear HI0; intro HO_417001 BK411 BK416 HK HB HI0; (try clear hb); (try clear hb2); (try clear hk); (try clear hi)) | ((with_reducible refine gate_callee (f := 34) rfl ?_); refine goesL_ (some 38) rfl rfl Tryd.func34 (by kernel_rfl) rfl #[.pointer (some ⟨g, 0, none⟩), .int .i64 3] rfl zcj_3 ?_; (with_reducible refine (spec_l20Rd_pick.calls k1 g s0_0 t425 3 t426 t427 w0 _ ?side1 ?side2 A27.out).mono ?_); (case side1 => exact zcj_27); (case side2 => exact zcj_28); rintro e w33 ⟨rfl, hi, hb, hk⟩; refine ⟨_, rfl, ?_⟩; refine zcj_f14 ?_; clear HO_417001; clear BK411; clear BK416; clear HK; clear HB; clear HI0; intro HO_417001 BK411 BK416 HK HB HI0; (try clear hb); (try clear hb2); (try clear hk); (try clear hi)) | ((with_reducible refine gate_dst (N := 43) rfl ?_); refine Kd.R_lit (Kd.int .i64) _ 3 ?hg (N := 43) ?hd (xs := ([0, 7] : List Int)) (inner := [.int .i64 0, .int .i64 7]) (ok := fun _ => True) (okp := fun _ => True) ?hr ?hp (fun _ hk => hk) trivial (Below.refl _ _) (Nat.le_refl _) (by simp) ?_; (case hd => rfl); (case hg => rfl); (case hr => exact zcj_12); (case hp => exact (Reps.one (show Kd.M (Kd.int .i64) _ _ _ 0 [.int .i64 0] from rfl) (Reps.one (show Kd.M (Kd.int .i64) _ _ _ 7 [.int .i64 7] from rfl) (Reps.none _ _)))); intro v429 w34 ho35 hb hg_ hnew_; clear hg_ hnew_; (first | rw [← Ny428.out] at ho35 | (simp only [Int.reduceToNat] at ho35; rw [← Ny428.out] at ho35)); have n0_ := Aside0.mk (Kd.R_elder' zcj_47 (Kd.R_base ho35) hb); have n1_ := Aside0.mk (Kd.R_lower (Kd.R_new' ho35 (Kd.R_lt zcj_47)) (keep_size (w := w) (g := g) (row := none) zcj_29)); have n2_ := Aside0.mk (blk_below (g := gb411) (o := .cells #[.int .i64 0, .slice none 0 0] 47 (0, 0)) zcj_39 hb); have n3_ := Aside0.mk (blk_below (g := gb416) (o := .cells #[.int .i64 (wrap64 ((wrap64 (1 + t412)) + (wrap64 (Int.tdiv t414 8)))), u417001] 47 (0, 0)) zcj_51 hb); have n4_ := Aside0.mk (IsS63.below zcj_27 hb); have n5_ := Aside0.mk (KeepBut.trans zcj_29 (KeepBut.of_below hb g none) (.inl rfl)); have n6_ := Aside0.mk (below_step zcj_28 hb); clear HO_417001; clear BK411; clear BK416; clear HI0; clear HK; clear HB; have HO_417001 := n0_; have HO430 := n1_; have BK411 := n2_; have BK416 := n3_; have HI0 := n4_; have HK := n5_; have HB := n6_; clear n0_ n1_ n2_ n3_ n4_ n5_ n6_; clear hb ho35) | ((with_reducible refine gate_callee (f := 34) rfl ?_); refine goesL_ (some 45) rfl rfl Tryd.func34 (by kernel_rfl) rfl #[.pointer (some ⟨g, 0, none⟩), .int .i64 2] rfl zcj_3 ?_; (with_reducible refine (spec_l20Rd_pick.calls k1 g s0_0 t427 2 t431 t432 w0 _ ?side1 ?side2 A29.out).mono ?_); (case side1 => exact zcj_27); (case side2 => exact zcj_28); rintro e w36 ⟨rfl, hi, hb, hk⟩; refine ⟨_, rfl, ?_⟩; have n0_ := Aside0.mk (Kd.R_mono (Kd.R_keep (IsS63.apart (show IsS63 w0 _ g s0_0 t427 from by repeat (first | (with_reducible first | exact HI0.out | apply IsS63.alloc | apply IsS63.drewN | apply IsS63.drew | apply IsS63.set_1 | refine IsS63.far ?_ NB0_411.out _ | refine IsS63.far ?_ NB0_416.out _) | exact HI0.out)) zcj_47 (by decide)) hk (fun _ h => h.2)) (fun _ h => h.1)); have n1_ := Aside0.mk (KeepBut.blk hk (g' := gb411) (o := .cells #[.int .i64 0, .slice none 0 0] 47 (0, 0)) zcj_39 NB411_0.out (by simp)); have n2_ := Aside0.mk (KeepBut.blk hk (g' := gb416) (o := .cells #[.int .i64 (wrap64 ((wrap64 (1 + t412)) + (wrap64 (Int.tdiv t414 8)))), u417001] 47 (0, 0)) zcj_51 NB416_0.out (by simp)); have n3_ := Aside0.mk (Kd.R_mono (Kd.R_keep (IsS63.apart (show IsS63 w0 _ g s0_0 t427 from by repeat (first | (with_reducible first | exact HI0.out | apply IsS63.alloc | apply IsS63.drewN | apply IsS63.drew | apply IsS63.set_1 | refine IsS63.far ?_ NB0_411.out _ | refine IsS63.far ?_ NB0_416.out _) | exact HI0.out)) (by (with_reducible repeat (first | apply Kd.R_alloc | apply Kd.R_drewN | apply Kd.R_drew)); exact HO430.out) (by decide)) hk (fun _ h => h.2)) (fun _ h => h.1)); have n4_ := Aside0.mk (KeepBut.trans zcj_29 hk (.inl rfl)); have n5_ := Aside0.mk (hb); have n6_ := Aside0.mk (hi); clear HO_417001; clear BK411; clear BK416; clear HO430; clear HK; clear HB; clear HI0; have HO_417001 := n0_; have BK411 := n1_; have BK416 := n2_; have HO430 := n3_; have HK := n4_; have HB := n5_; have HI0 := n6_; clear n0_ n1_ n2_ n3_ n4_ n5_ n6_; (try clear hb); (try clear hb2); (try clear hk); (try clear hi); obtain ⟨Ao37, co37, eo37⟩ := Kd.R_slice HO430.out; subst eo37; have p433 : 0 ≤ (t431 : Int) := of_decide_eq_true zcj_2; have q433 : t431 < (y428.length : Int) := of_decide_eq_true zcj_2; obtain ⟨ad433, e433, hx433_0⟩ := Kd.at_int (Kd.R_reads' HO430.out).2.2 t431 p433 q433; cases e433; replace p433 := eq_true p433; replace q433 := eq_true q433; have hnb38 := NB416_411.out; have hnc38 := NB411_416.out; have hnb39 := NB416_0.out; have hnc39 := NB0_416.out; have hcz40_0 : w36.cell? ⟨gb416, 0, none⟩ = some (.int .i64 (wrap64 ((wrap64 (1 + t412)) + (wrap64 (Int.tdiv t414 8))))) := (blk_cell BK416.out 0).trans rfl; have hcz40_1 : w36.cell? ⟨gb416, 1, none⟩ = some (u417001) := (blk_cell BK416.out 1).trans rfl; have hfz40_0 := blk_frozen BK416.out 0; have hfz40_1 := blk_frozen BK416.out 1; have hnb41 := NB411_0.out; have hnc41 := NB0_411.out; have hcz42_0 : w36.cell? ⟨gb411, 0, none⟩ = some (.int .i64 0) := (blk_cell BK411.out 0).trans rfl; have hcz42_1 : w36.cell? ⟨gb411, 1, none⟩ = some (.slice none 0 0) := (blk_cell BK411.out 1).trans rfl; have hfz42_0 := blk_frozen BK411.out 0; have hfz42_1 := blk_frozen BK411.out 1; obtain ⟨Ao43, co43, eo43⟩ := Kd.R_slice HO_417001.out; subst eo43))
 refine bodyPost_ret (results_cell_row rfl _ _ gb411 47 #[.int .i64 (rd y428 t431), .slice Ao43 x417001_1.length co43] (0, 0) _ rfl (by (with_reducible repeat (first | refine blk_drewN ?_ _ | refine blk_drew ?_ | refine blk_alloc ?_ _)); refine blk_put (cs := #[.int .i64 (rd y428 t431), .slice none 0 0]) ?_ 1 _ rfl; (with_reducible repeat (first | refine blk_drewN ?_ _ | refine blk_drew ?_ | refine blk_alloc ?_ _)); refine blk_put (cs := #[.int .i64 0, .slice none 0 0]) ?_ 0 _ rfl; (with_reducible repeat (first | refine blk_drewN ?_ _ | refine blk_drew ?_ | refine blk_alloc ?_ _)); refine blk_far ?_ NB411_416.out _; (with_reducible repeat (first | refine blk_drewN ?_ _ | refine blk_drew ?_ | refine blk_alloc ?_ _)); exact BK411.out) Tryd.underlying47 rfl (by kernel_rfl)) rfl ?_
 exact ⟨_, zcj_13, by (with_reducible repeat (first | apply Kd.R_alloc | apply Kd.R_drewN | apply Kd.R_drew)); exact Kd.R_mono (Kd.R_far (p := ⟨gb411, 1, none⟩) (Kd.R_far (p := ⟨gb411, 0, none⟩) (Kd.R_far (p := ⟨gb416, 0, none⟩) (Kd.R_types (Kd.R_types HO_417001.out BK416.out (by decide)) BK411.out (by decide)) (fun _ hk => hk.1.2) (.int .i64 (rd y428 t431))) (fun _ hk => hk.2) (.int .i64 (rd y428 t431))) (fun _ hk => hk.2) (.slice Ao43 x417001_1.length co43)) (fun _ hk => trivial), zcj_27, zcj_28, zcj_29⟩
 }
 {
 rw [if_neg c31] at H
 exact absurd H (by simp)
 }
 }
 {
 rw [if_neg c30] at H
 exact absurd H (by simp)
 }
 }
 {
 rw [if_neg c28] at H
 have c28b0 : (t426 == 0) = false := beq_eq_false_iff_ne.mpr c28
 have c28b1 : (t426 != 0) = true := bne_iff_ne.mpr c28
 by_cases c44 : t426 = 1
 {
 rw [if_pos c44] at H
 have c44b0 : (t426 == 1) = true := beq_iff_eq.mpr c44
 have c44b1 : (t426 != 1) = false := bne_eq_false_iff_eq.mpr c44
 clear c44
 by_cases c45 : x417001_1.length < 17592186044416
 {
 rw [if_pos c45] at H
 have LMc45 := Aside0.mk c45
 clear c45
 obtain ⟨y434, hy434⟩ : ∃ y_ : List Int, y_ = (x417001_1 ++ [0]) := ⟨_, rfl⟩
 replace H : (some ((wrap64 ((wrap64 (1 + t412)) + (wrap64 (Int.tdiv t414 8)))), y434, t427)) = some (r1, r2, r3) := by first | (rw [hy434]; with_reducible exact H) | (have H2_ := (Option.bind_some _ _).symm.trans H; rw [hy434]; with_reducible exact H2_) | (have H2_ := (Option.bind_some _ _).symm.trans H; with_reducible exact H2_) | with_reducible exact H | (rw [hy434]; exact H) | exact H
 have Ny434 := Aside0.mk hy434
 clear hy434
 simp only [Option.some.injEq, Prod.mk.injEq] at H
 obtain ⟨rfl, rfl, rfl⟩ := H
 go_wp2_with (first | ((with_reducible refine gate_callee (f := 39) rfl ?_); refine goesL_ (some 36) rfl rfl Tryd.func39 (by kernel_rfl) rfl #[.pointer (some ⟨g, 0, none⟩), .int .i64 a1] rfl zcj_3 ?_; (with_reducible refine (spec_l20Rd_odd.calls k1 g s0_0 x1001_1 a1 true t425 w0 _ ?side1 ?side2 A25.out).mono ?_); (case side1 => exact zcj_27); (case side2 => exact zcj_28); rintro e w46 ⟨rfl, hi, hb, hk⟩; refine ⟨_, rfl, ?_⟩; refine zcj_f7 ?_; clear HO_417001; clear BK411; clear BK416; clear HK; clear HB; clear HI0; intro HO_417001 BK411 BK416 HK HB HI0; (try clear hb); (try clear hb2); (try clear hk); (try clear hi)) | ((with_reducible refine gate_callee (f := 34) rfl ?_); refine goesL_ (some 38) rfl rfl Tryd.func34 (by kernel_rfl) rfl #[.pointer (some ⟨g, 0, none⟩), .int .i64 3] rfl zcj_3 ?_; (with_reducible refine (spec_l20Rd_pick.calls k1 g s0_0 t425 3 t426 t427 w0 _ ?side1 ?side2 A27.out).mono ?_); (case side1 => exact zcj_27); (case side2 => exact zcj_28); rintro e w47 ⟨rfl, hi, hb, hk⟩; refine ⟨_, rfl, ?_⟩; refine zcj_f14 ?_; clear HO_417001; clear BK411; clear BK416; clear HK; clear HB; clear HI0; intro HO_417001 BK411 BK416 HK HB HI0; (try clear hb); (try clear hb2); (try clear hk); (try clear hi); have hnb48 := NB416_411.out; have hnc48 := NB411_416.out; have hnb49 := NB416_0.out; have hnc49 := NB0_416.out; have hcz50_0 : w47.cell? ⟨gb416, 0, none⟩ = some (.int .i64 (wrap64 ((wrap64 (1 + t412)) + (wrap64 (Int.tdiv t414 8))))) := (blk_cell BK416.out 0).trans rfl; have hcz50_1 : w47.cell? ⟨gb416, 1, none⟩ = some (u417001) := (blk_cell BK416.out 1).trans rfl; have hfz50_0 := blk_frozen BK416.out 0; have hfz50_1 := blk_frozen BK416.out 1) | ((with_reducible refine gate_builtin (b := .append) (xs := #[.tmp 52, .tmp 53]) rfl ?_); at_builtin; refine Kd.R_append (Kd.int .i64) w.heap.size rfl (.tmp 52) (.tmp 53) 45 3 (.int .i64 0) 8 rfl Tryd.underlying45 info3 rfl (by decide) (by omega) u417001 x417001_1 0 [.int .i64 0] (fun _ => True) (fun _ => False) rfl rfl ?aP (fun _ hk => hk.elim) ?aF ?aO (Below.refl _ _) ?aS ?aL ?_; (case aP => exact rfl); (case aF => exact zcj_87); (case aO => exact zcj_160); (case aS => exact zcj_161); (case aL => have := LMc45.out; omega); intro v435 w51 ho hb hg hat; rw [← Ny434.out] at ho; have n0_ := Aside0.mk (blk_grown (g := gb411) (o := .cells #[.int .i64 0, .slice none 0 0] 47 (0, 0)) zcj_39 hg (Kd.R_ne HO_417001.out BK411.out (by decide))); have n1_ := Aside0.mk (blk_grown (g := gb416) (o := .cells #[.int .i64 (wrap64 ((wrap64 (1 + t412)) + (wrap64 (Int.tdiv t414 8)))), u417001] 47 (0, 0)) zcj_51 hg (Kd.R_ne HO_417001.out BK416.out (by decide))); have n2_ := Aside0.mk (IsS63.grown zcj_27 hg (IsS63.own_ne HI0.out HO_417001.out (by decide))); have n3_ := Aside0.mk (below_weaken zcj_28 HL.out hb); have n4_ := Aside0.mk (KeepBut.trans zcj_29 (KeepBut.of_grown hg g) (Kd.R_base2 HO_417001.out)); have n5_ := Aside0.mk (ho); clear BK411; clear BK416; clear HI0; clear HB; clear HK; clear HO_417001; have BK411 := n0_; have BK416 := n1_; have HI0 := n2_; have HB := n3_; have HK := n4_; have HO436 := n5_; clear n0_ n1_ n2_ n3_ n4_ n5_; clear ho hb hg hat; obtain ⟨Ao52, co52, eo52⟩ := Kd.R_slice HO436.out; subst eo52; have hcz53_0 : w51.cell? ⟨gb416, 0, none⟩ = some (.int .i64 (wrap64 ((wrap64 (1 + t412)) + (wrap64 (Int.tdiv t414 8))))) := (blk_cell BK416.out 0).trans rfl; have hcz53_1 : w51.cell? ⟨gb416, 1, none⟩ = some (u417001) := (blk_cell BK416.out 1).trans rfl; have hfz53_0 := blk_frozen BK416.out 0; have hfz53_1 := blk_frozen BK416.out 1; have hnb54 := NB411_0.out; have hnc54 := NB0_411.out; have hcz55_0 : w51.cell? ⟨gb411, 0, none⟩ = some (.int .i64 0) := (blk_cell BK411.out 0).trans rfl; have hcz55_1 : w51.cell? ⟨gb411, 1, none⟩ = some (.slice none 0 0) := (blk_cell BK411.out 1).trans rfl; have hfz55_0 := blk_frozen BK411.out 0; have hfz55_1 := blk_frozen BK411.out 1))
 refine bodyPost_ret (results_cell_row rfl _ _ gb411 47 #[.int .i64 (wrap64 ((wrap64 (1 + t412)) + (wrap64 (Int.tdiv t414 8)))), .slice Ao52 y434.length co52] (0, 0) _ rfl zcj_162 Tryd.underlying47 rfl (by kernel_rfl)) rfl ?_
 exact ⟨_, zcj_13, by (with_reducible repeat (first | apply Kd.R_alloc | apply Kd.R_drewN | apply Kd.R_drew)); exact Kd.R_mono (Kd.R_far (p := ⟨gb411, 1, none⟩) (Kd.R_far (p := ⟨gb411, 0, none⟩) (Kd.R_far (p := ⟨gb416, 1, none⟩) (Kd.R_types (Kd.R_types HO436.out BK416.out (by decide)) BK411.out (by decide)) (fun _ hk => hk.1.2) (.slice Ao52 y434.length co52)) (fun _ hk => hk.2) (.int .i64 (wrap64 ((wrap64 (1 + t412)) + (wrap64 (Int.tdiv t414 8)))))) (fun _ hk => hk.2) (.slice Ao52 y434.length co52)) (fun _ hk => trivial), zcj_27, zcj_28, zcj_29⟩
 }
 {
 rw [if_neg c45] at H
 exact absurd H (by simp)
 }
 }
 {
 rw [if_neg c44] at H
 have c44b0 : (t426 == 1) = false := beq_eq_false_iff_ne.mpr c44
 have c44b1 : (t426 != 1) = true := bne_iff_ne.mpr c44
 obtain ⟨y437, hy437⟩ : ∃ y_ : List Int, y_ = (([] : List Int)) := ⟨_, rfl⟩
 replace H : (some ((wrap64 ((wrap64 (1 + t412)) + (wrap64 (Int.tdiv t414 8)))), y437, t427)) = some (r1, r2, r3) := by first | (rw [hy437]; with_reducible exact H) | (have H2_ := (Option.bind_some _ _).symm.trans H; rw [hy437]; with_reducible exact H2_) | (have H2_ := (Option.bind_some _ _).symm.trans H; with_reducible exact H2_) | with_reducible exact H | (rw [hy437]; exact H) | exact H
 have Ny437 := Aside0.mk hy437
 clear hy437
 simp only [Option.some.injEq, Prod.mk.injEq] at H
 obtain ⟨rfl, rfl, rfl⟩ := H
 go_wp2_with (first | ((with_reducible refine gate_callee (f := 39) rfl ?_); refine goesL_ (some 36) rfl rfl Tryd.func39 (by kernel_rfl) rfl #[.pointer (some ⟨g, 0, none⟩), .int .i64 a1] rfl zcj_3 ?_; (with_reducible refine (spec_l20Rd_odd.calls k1 g s0_0 x1001_1 a1 true t425 w0 _ ?side1 ?side2 A25.out).mono ?_); (case side1 => exact zcj_27); (case side2 => exact zcj_28); rintro e w56 ⟨rfl, hi, hb, hk⟩; refine ⟨_, rfl, ?_⟩; refine zcj_f7 ?_; clear HO_417001; clear BK411; clear BK416; clear HK; clear HB; clear HI0; intro HO_417001 BK411 BK416 HK HB HI0; (try clear hb); (try clear hb2); (try clear hk); (try clear hi)) | ((with_reducible refine gate_callee (f := 34) rfl ?_); refine goesL_ (some 38) rfl rfl Tryd.func34 (by kernel_rfl) rfl #[.pointer (some ⟨g, 0, none⟩), .int .i64 3] rfl zcj_3 ?_; (with_reducible refine (spec_l20Rd_pick.calls k1 g s0_0 t425 3 t426 t427 w0 _ ?side1 ?side2 A27.out).mono ?_); (case side1 => exact zcj_27); (case side2 => exact zcj_28); rintro e w57 ⟨rfl, hi, hb, hk⟩; refine ⟨_, rfl, ?_⟩; refine zcj_f14 ?_; clear HO_417001; clear BK411; clear BK416; clear HK; clear HB; clear HI0; intro HO_417001 BK411 BK416 HK HB HI0; (try clear hb); (try clear hb2); (try clear hk); (try clear hi)) | ((with_reducible refine gate_dst (N := 39) rfl ?_); refine Kd.R_lit (Kd.int .i64) _ 3 ?hg (N := 39) ?hd (xs := ([] : List Int)) (inner := []) (ok := fun _ => True) (okp := fun _ => True) ?hr ?hp (fun _ hk => hk) trivial (Below.refl _ _) (Nat.le_refl _) (by simp) ?_; (case hd => rfl); (case hg => rfl); (case hr => exact zcj_12); (case hp => exact (Reps.none _ _)); intro v438 w58 ho59 hb hg_ hnew_; clear hg_ hnew_; (first | rw [← Ny437.out] at ho59 | (simp only [Int.reduceToNat] at ho59; rw [← Ny437.out] at ho59)); have n0_ := Aside0.mk (Kd.R_elder' zcj_47 (Kd.R_base ho59) hb); have n1_ := Aside0.mk (Kd.R_lower (Kd.R_new' ho59 (Kd.R_lt zcj_47)) (keep_size (w := w) (g := g) (row := none) zcj_29)); have n2_ := Aside0.mk (blk_below (g := gb411) (o := .cells #[.int .i64 0, .slice none 0 0] 47 (0, 0)) zcj_39 hb); have n3_ := Aside0.mk (blk_below (g := gb416) (o := .cells #[.int .i64 (wrap64 ((wrap64 (1 + t412)) + (wrap64 (Int.tdiv t414 8)))), u417001] 47 (0, 0)) zcj_51 hb); have n4_ := Aside0.mk (IsS63.below zcj_27 hb); have n5_ := Aside0.mk (KeepBut.trans zcj_29 (KeepBut.of_below hb g none) (.inl rfl)); have n6_ := Aside0.mk (below_step zcj_28 hb); clear HO_417001; clear BK411; clear BK416; clear HI0; clear HK; clear HB; have HO_417001 := n0_; have HO439 := n1_; have BK411 := n2_; have BK416 := n3_; have HI0 := n4_; have HK := n5_; have HB := n6_; clear n0_ n1_ n2_ n3_ n4_ n5_ n6_; clear hb ho59; obtain ⟨Ao60, co60, eo60⟩ := Kd.R_slice HO439.out; subst eo60; have hnb61 := NB416_411.out; have hnc61 := NB411_416.out; have hnb62 := NB416_0.out; have hnc62 := NB0_416.out; have hcz63_0 : w58.cell? ⟨gb416, 0, none⟩ = some (.int .i64 (wrap64 ((wrap64 (1 + t412)) + (wrap64 (Int.tdiv t414 8))))) := (blk_cell BK416.out 0).trans rfl; have hcz63_1 : w58.cell? ⟨gb416, 1, none⟩ = some (u417001) := (blk_cell BK416.out 1).trans rfl; have hfz63_0 := blk_frozen BK416.out 0; have hfz63_1 := blk_frozen BK416.out 1; have hnb64 := NB411_0.out; have hnc64 := NB0_411.out; have hcz65_0 : w58.cell? ⟨gb411, 0, none⟩ = some (.int .i64 0) := (blk_cell BK411.out 0).trans rfl; have hcz65_1 : w58.cell? ⟨gb411, 1, none⟩ = some (.slice none 0 0) := (blk_cell BK411.out 1).trans rfl; have hfz65_0 := blk_frozen BK411.out 0; have hfz65_1 := blk_frozen BK411.out 1))
 refine bodyPost_ret (results_cell_row rfl _ _ gb411 47 #[.int .i64 (wrap64 ((wrap64 (1 + t412)) + (wrap64 (Int.tdiv t414 8)))), .slice Ao60 y437.length co60] (0, 0) _ rfl zcj_162 Tryd.underlying47 rfl (by kernel_rfl)) rfl ?_
 exact ⟨_, zcj_13, by (with_reducible repeat (first | apply Kd.R_alloc | apply Kd.R_drewN | apply Kd.R_drew)); exact Kd.R_mono (Kd.R_far (p := ⟨gb411, 1, none⟩) (Kd.R_far (p := ⟨gb411, 0, none⟩) (Kd.R_far (p := ⟨gb416, 1, none⟩) (Kd.R_types (Kd.R_types HO439.out BK416.out (by decide)) BK411.out (by decide)) (fun _ hk => hk.1.2) (.slice Ao60 y437.length co60)) (fun _ hk => hk.2) (.int .i64 (wrap64 ((wrap64 (1 + t412)) + (wrap64 (Int.tdiv t414 8)))))) (fun _ hk => hk.2) (.slice Ao60 y437.length co60)) (fun _ hk => trivial), zcj_27, zcj_28, zcj_29⟩
 }
 }
 }
 {
 replace c26 := Bool.eq_false_iff.mpr c26
 subst c26
 have H1 : (some ((wrap64 ((wrap64 (1 + t412)) + (wrap64 (Int.tdiv t414 8)))), x417001_1, t425)) = some (r1, r2, r3) := by rw [if_neg (show ¬ (false = true) by decide)] at H; exact H
 clear H
 have H := H1
 clear H1
 simp only [Option.some.injEq, Prod.mk.injEq] at H
 obtain ⟨rfl, rfl, rfl⟩ := H
 go_wp2_with (first | ((with_reducible refine gate_callee (f := 39) rfl ?_); refine goesL_ (some 36) rfl rfl Tryd.func39 (by kernel_rfl) rfl #[.pointer (some ⟨g, 0, none⟩), .int .i64 a1] rfl zcj_3 ?_; (with_reducible refine (spec_l20Rd_odd.calls k1 g s0_0 x1001_1 a1 false t425 w0 _ ?side1 ?side2 A25.out).mono ?_); (case side1 => exact zcj_27); (case side2 => exact zcj_28); rintro e w66 ⟨rfl, hi, hb, hk⟩; refine ⟨_, rfl, ?_⟩; refine zcj_f7 ?_; clear HO_417001; clear BK411; clear BK416; clear HK; clear HB; clear HI0; intro HO_417001 BK411 BK416 HK HB HI0; (try clear hb); (try clear hb2); (try clear hk); (try clear hi); have hnb67 := NB416_411.out; have hnc67 := NB411_416.out; have hnb68 := NB416_0.out; have hnc68 := NB0_416.out; have hcz69_0 : w66.cell? ⟨gb416, 0, none⟩ = some (.int .i64 (wrap64 ((wrap64 (1 + t412)) + (wrap64 (Int.tdiv t414 8))))) := (blk_cell BK416.out 0).trans rfl; have hcz69_1 : w66.cell? ⟨gb416, 1, none⟩ = some (u417001) := (blk_cell BK416.out 1).trans rfl; have hfz69_0 := blk_frozen BK416.out 0; have hfz69_1 := blk_frozen BK416.out 1; have hnb70 := NB411_0.out; have hnc70 := NB0_411.out; have hcz71_0 : w66.cell? ⟨gb411, 0, none⟩ = some (.int .i64 0) := (blk_cell BK411.out 0).trans rfl; have hcz71_1 : w66.cell? ⟨gb411, 1, none⟩ = some (.slice none 0 0) := (blk_cell BK411.out 1).trans rfl; have hfz71_0 := blk_frozen BK411.out 0; have hfz71_1 := blk_frozen BK411.out 1; obtain ⟨Ao72, co72, eo72⟩ := Kd.R_slice HO_417001.out; subst eo72))
 refine bodyPost_ret (results_cell_row rfl _ _ gb411 47 #[.int .i64 (wrap64 ((wrap64 (1 + t412)) + (wrap64 (Int.tdiv t414 8)))), .slice Ao72 x417001_1.length co72] (0, 0) _ rfl (by (with_reducible repeat (first | refine blk_drewN ?_ _ | refine blk_drew ?_ | refine blk_alloc ?_ _)); refine blk_put (cs := #[.int .i64 (wrap64 ((wrap64 (1 + t412)) + (wrap64 (Int.tdiv t414 8)))), .slice none 0 0]) ?_ 1 _ rfl; (with_reducible repeat (first | refine blk_drewN ?_ _ | refine blk_drew ?_ | refine blk_alloc ?_ _)); refine blk_put (cs := #[.int .i64 0, .slice none 0 0]) ?_ 0 _ rfl; (with_reducible repeat (first | refine blk_drewN ?_ _ | refine blk_drew ?_ | refine blk_alloc ?_ _)); exact BK411.out) Tryd.underlying47 rfl (by kernel_rfl)) rfl ?_
 exact ⟨_, zcj_13, by (with_reducible repeat (first | apply Kd.R_alloc | apply Kd.R_drewN | apply Kd.R_drew)); exact Kd.R_mono (Kd.R_far (p := ⟨gb411, 1, none⟩) (Kd.R_far (p := ⟨gb411, 0, none⟩) (Kd.R_types HO_417001.out BK411.out (by decide)) (fun _ hk => hk.2) (.int .i64 (wrap64 ((wrap64 (1 + t412)) + (wrap64 (Int.tdiv t414 8)))))) (fun _ hk => hk.2) (.slice Ao72 x417001_1.length co72)) (fun _ hk => trivial), zcj_27, zcj_28, zcj_29⟩
 }
 }
 )
 )
end Go.Proofs.YtnkfbappnpnaoaaDoor.Q
