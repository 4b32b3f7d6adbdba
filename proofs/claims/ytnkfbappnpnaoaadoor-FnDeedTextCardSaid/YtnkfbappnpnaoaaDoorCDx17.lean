/- A part of this claim's proof: functions of the program as plain functions, with the proof that the code comes to their answers, and facts about them. Condition: none of its own. -/
import Derived.LaidLaws
import Derived.Lib.LaidTab
import Derived.Shelf.Vars
import Derived.Test.YtnkfbappnpnaoaaDoorCDx1
import Derived.Test.YtnkfbappnpnaoaaDoorCDx14
import Derived.Test.YtnkfbappnpnaoaaDoorCDx16
import Derived.Test.YtnkfbappnpnaoaaDoorCDx4
import Derived.Test.YtnkfbappnpnaoaaDoorCDx5
import Derived.Test.YtnkfbappnpnaoaaDoorCDx3
import Derived.Test.YtnkfbappnpnaoaaDoorCDz
namespace Go.Proofs.YtnkfbappnpnaoaaDoor.Q
open Go.RowKit Go.Proofs.YtnkfbappnpnaoaaDoorW.PrintWords Go.Proofs.YtnkfbappnpnaoaaDoorW.PrintLast Go.Proofs.YtnkfbappnpnaoaaDoorW.PrintMore
attribute [local go_sem] max2_int min2_int max_two min_two max_three min_three max_four min_four   -- for this text's walks alone
set_option linter.unusedVariables false
set_option linter.unusedSimpArgs false
attribute [local go_sem high] eqA30
def laws_FnDeedText.f (k : Nat) (l0 : List Int) : Option (Bool) := if (l0.length : Int) > 1048576 then (some true) else ((spec_DrawDeedText.f k l0).bind fun bt498 => ((impl_DeedText.f bt498.1 bt498.2.1 bt498.2.2.1 bt498.2.2.2).bind fun t503 => ((spec_DeedText.f k bt498.1 bt498.2.1 bt498.2.2.1 bt498.2.2.2).bind fun t504 => (if t503.toList = t504.toList then (if t503.toList = ([] : List UInt8) then ((laws_alive.f).bind fun t505 => (some t505)) else ((impl_ReadDeed.f t503).bind fun bt506 => (if bt506.2.2.2.2 = true then (some (bt506.1 == bt498.1 && (bt506.2.1 == bt498.2.1 && (bt506.2.2.1 == bt498.2.2.1 && (bt506.2.2.2.1.toList == bt498.2.2.2.toList))))) else (some false)))) else (some false)))))
set_option maxHeartbeats 8000000 in
set_option maxRecDepth 100000 in
theorem laws_FnDeedText.calls (k : Nat) (A0 : Option Addr) (c0 : Nat) (l0 : List Int) (r : Bool) (w : World) (hr0 : Kd.C (Kd.int .u8) w A0 l0.length l0) (hc0 : l0.length ≤ c0) (hG : Glob w) (h : laws_FnDeedText.f k l0 = some r) :
    Calls Tryd.prog 4 #[.slice A0 l0.length c0] w fun e w' => e = .returned (.bool r) ∧ Below w.heap.size w w' := by
 have HG := Aside0.mk hG
 clear hG
 have hu30 := Tryd.underlying30
 have HR0 := Aside0.mk hr0
 have HC0 := Aside0.mk hc0
 clear hr0 hc0
 have HB := Aside0.mk (Below.refl w.heap.size w)
 have H : (if (l0.length : Int) > 1048576 then (some true) else ((spec_DrawDeedText.f k l0).bind fun bt498 => ((impl_DeedText.f bt498.1 bt498.2.1 bt498.2.2.1 bt498.2.2.2).bind fun t503 => ((spec_DeedText.f k bt498.1 bt498.2.1 bt498.2.2.1 bt498.2.2.2).bind fun t504 => (if t503.toList = t504.toList then (if t503.toList = ([] : List UInt8) then ((laws_alive.f).bind fun t505 => (some t505)) else ((impl_ReadDeed.f t503).bind fun bt506 => (if bt506.2.2.2.2 = true then (some (bt506.1 == bt498.1 && (bt506.2.1 == bt498.2.1 && (bt506.2.2.1 == bt498.2.2.1 && (bt506.2.2.2.1.toList == bt498.2.2.2.toList))))) else (some false)))) else (some false)))))) = some r := h
 clear h
 by_cases c2 : (l0.length : Int) > 1048576
 {
 rw [if_pos c2] at H
 have c2b0 : decide (1048576 < (l0.length : Int)) = true := decide_eq_true c2
 have c2b1 : decide (1048576 < l0.length) = true := decide_eq_true (by omega)
 clear c2
 obtain rfl := Option.some.inj H
 go_enter Tryd.func4, Tryd.ntmps4
 go_wp2
 go_ret
 exact ⟨zcd_13, zcd_4⟩
 }
 {
 rw [if_neg c2] at H
 have c2b0 : decide (1048576 < (l0.length : Int)) = false := decide_eq_false c2
 have c2b1 : decide (1048576 < l0.length) = false := decide_eq_false (by omega)
 clear c2
 replace H := Option.bind_eq_some_iff.mp H
 obtain ⟨⟨t498, t499, t500, t501⟩, A30, H⟩ := H
 try dsimp only at H
 have A3 := Aside0.mk A30
 clear A30
 replace H := Option.bind_eq_some_iff.mp H
 obtain ⟨t503, A40, H⟩ := H
 try dsimp only at H
 have A4 := Aside0.mk A40
 clear A40
 replace H := Option.bind_eq_some_iff.mp H
 obtain ⟨t504, A50, H⟩ := H
 try dsimp only at H
 have A5 := Aside0.mk A50
 clear A50
 by_cases c6 : t503.toList = t504.toList
 {
 rw [if_pos c6] at H
 have c6b0 : (t503.toList == t504.toList) = true := beq_iff_eq.mpr c6
 have c6b1 : (t503.toList != t504.toList) = false := bne_eq_false_iff_eq.mpr c6
 clear c6
 by_cases c7 : t503.toList = ([] : List UInt8)
 {
 rw [if_pos c7] at H
 have c7b0 : (t503.toList == ([] : List UInt8)) = true := beq_iff_eq.mpr c7
 have c7b1 : (t503.toList != ([] : List UInt8)) = false := bne_eq_false_iff_eq.mpr c7
 clear c7
 replace H := Option.bind_eq_some_iff.mp H
 obtain ⟨t505, A80, H⟩ := H
 try dsimp only at H
 have A8 := Aside0.mk A80
 clear A80
 obtain rfl := Option.some.inj H
 go_enter Tryd.func4, Tryd.ntmps4
 go_wp2_with (first | ((with_reducible refine gate_callee (f := 12) rfl ?_); refine goesL_ (some 11) rfl rfl Tryd.func12 (by kernel_rfl) rfl #[.slice A0 l0.length c0] rfl zcd_3 ?_; (with_reducible refine (spec_DrawDeedText.calls k _ _ l0 t498 t499 t500 t501 _ ?side1 ?side2 A3.out).mono ?_); (case side1 => exact zcd_52); (case side2 => exact HC0.out); rintro e w9 ⟨rfl, hb⟩; refine ⟨_, rfl, ?_⟩; have n0_ := Aside0.mk (below_step zcd_4 hb); clear HB; have HB := n0_; clear n0_; (try clear hb); (try clear hb2); (try clear hk); (try clear hi)) | ((with_reducible refine gate_dst (N := 3) rfl ?_); refine box_event ?hg (N := 3) ?hd (cs := #[.int .i64 0, .int .i64 0, .int .i64 0, .string (⟨#[]⟩ : ByteArray)]) (t := 30) ?hr ?_; (case hd => rfl); (case hg => rfl); (case hr => exact zcd_12); intro gb502 hg w10 hbox hb; have n0_ := Aside0.mk (below_step zcd_4 hb); have n1_ := Aside0.mk (hbox); have n2_ := Aside0.mk ((zcd_20 : w.heap.size ≤ gb502)); have n3_ := Aside0.mk ((zcd_20 : w.heap.size ≤ gb502)); clear HB; have HB := n0_; have BK502 := n1_; have GW502 := n2_; have GE502 := n3_; clear n0_ n1_ n2_ n3_; clear hb hbox hg; have hcz11_0 : w10.cell? ⟨gb502, 0, none⟩ = some (.int .i64 0) := (blk_cell BK502.out 0).trans rfl; have hcz11_1 : w10.cell? ⟨gb502, 1, none⟩ = some (.int .i64 0) := (blk_cell BK502.out 1).trans rfl; have hcz11_2 : w10.cell? ⟨gb502, 2, none⟩ = some (.int .i64 0) := (blk_cell BK502.out 2).trans rfl; have hcz11_3 : w10.cell? ⟨gb502, 3, none⟩ = some (.string (⟨#[]⟩ : ByteArray)) := (blk_cell BK502.out 3).trans rfl; have hfz11_0 := blk_frozen BK502.out 0; have hfz11_1 := blk_frozen BK502.out 1; have hfz11_2 := blk_frozen BK502.out 2; have hfz11_3 := blk_frozen BK502.out 3) | ((with_reducible refine gate_callee (f := 13) rfl ?_); refine goesL_ (some 13) rfl rfl Tryd.func13 (by kernel_rfl) rfl #[.agg #[.int .i64 t498, .int .i64 t499, .int .i64 t500, .string t501]] rfl zcd_3 ?_; (with_reducible refine (impl_DeedText.calls t498 t499 t500 t501 t503 _ A4.out).mono ?_); rintro e w12 ⟨rfl, hb⟩; refine ⟨_, rfl, ?_⟩; have n0_ := Aside0.mk (blk_below (g := gb502) (o := .cells #[.int .i64 t498, .int .i64 t499, .int .i64 t500, .string t501] 30 (0, 0)) zcd_101 hb); have n1_ := Aside0.mk (below_step zcd_34 hb); clear BK502; clear HB; have BK502 := n0_; have HB := n1_; clear n0_ n1_; (try clear hb); (try clear hb2); (try clear hk); (try clear hi); have hcz13_0 : w12.cell? ⟨gb502, 0, none⟩ = some (.int .i64 t498) := (blk_cell BK502.out 0).trans rfl; have hcz13_1 : w12.cell? ⟨gb502, 1, none⟩ = some (.int .i64 t499) := (blk_cell BK502.out 1).trans rfl; have hcz13_2 : w12.cell? ⟨gb502, 2, none⟩ = some (.int .i64 t500) := (blk_cell BK502.out 2).trans rfl; have hcz13_3 : w12.cell? ⟨gb502, 3, none⟩ = some (.string t501) := (blk_cell BK502.out 3).trans rfl; have hfz13_0 := blk_frozen BK502.out 0; have hfz13_1 := blk_frozen BK502.out 1; have hfz13_2 := blk_frozen BK502.out 2; have hfz13_3 := blk_frozen BK502.out 3) | ((with_reducible refine gate_callee (f := 14) rfl ?_); refine goesL_ (some 16) rfl rfl Tryd.func14 (by kernel_rfl) rfl #[.agg #[.int .i64 t498, .int .i64 t499, .int .i64 t500, .string t501]] rfl zcd_3 ?_; (with_reducible refine (spec_DeedText.calls k t498 t499 t500 t501 t504 _ A5.out).mono ?_); rintro e w14 ⟨rfl, hb⟩; refine ⟨_, rfl, ?_⟩; have n0_ := Aside0.mk (blk_below (g := gb502) (o := .cells #[.int .i64 t498, .int .i64 t499, .int .i64 t500, .string t501] 30 (0, 0)) zcd_50 hb); have n1_ := Aside0.mk (below_step zcd_34 hb); clear BK502; clear HB; have BK502 := n0_; have HB := n1_; clear n0_ n1_; (try clear hb); (try clear hb2); (try clear hk); (try clear hi)) | ((with_reducible refine gate_callee (f := 15) rfl ?_); refine goesL_ (some 20) rfl rfl Tryd.func15 (by kernel_rfl) rfl #[] rfl zcd_3 ?_; (with_reducible refine (laws_alive.calls  t505 _ A8.out).mono ?_); rintro e w' ⟨rfl, ⟨nd, rfl⟩⟩; refine ⟨_, rfl, ?_⟩))
 go_ret
 exact ⟨zcd_13, zcd_34⟩
 }
 {
 rw [if_neg c7] at H
 have c7b0 : (t503.toList == ([] : List UInt8)) = false := beq_eq_false_iff_ne.mpr c7
 have c7b1 : (t503.toList != ([] : List UInt8)) = true := bne_iff_ne.mpr c7
 replace H := Option.bind_eq_some_iff.mp H
 obtain ⟨⟨t506, t507, t508, t509, t510⟩, A150, H⟩ := H
 try dsimp only at H
 have A15 := Aside0.mk A150
 clear A150
 by_cases c16 : t510 = true
 {
 subst c16
 rw [if_pos rfl] at H
 obtain rfl := Option.some.inj H
 go_enter Tryd.func4, Tryd.ntmps4
 go_wp2_with (first | ((with_reducible refine gate_callee (f := 12) rfl ?_); refine goesL_ (some 11) rfl rfl Tryd.func12 (by kernel_rfl) rfl #[.slice A0 l0.length c0] rfl zcd_3 ?_; (with_reducible refine (spec_DrawDeedText.calls k _ _ l0 t498 t499 t500 t501 _ ?side1 ?side2 A3.out).mono ?_); (case side1 => exact zcd_52); (case side2 => exact HC0.out); rintro e w17 ⟨rfl, hb⟩; refine ⟨_, rfl, ?_⟩; have n0_ := Aside0.mk (below_step zcd_4 hb); clear HB; have HB := n0_; clear n0_; (try clear hb); (try clear hb2); (try clear hk); (try clear hi)) | ((with_reducible refine gate_dst (N := 3) rfl ?_); refine box_event ?hg (N := 3) ?hd (cs := #[.int .i64 0, .int .i64 0, .int .i64 0, .string (⟨#[]⟩ : ByteArray)]) (t := 30) ?hr ?_; (case hd => rfl); (case hg => rfl); (case hr => exact zcd_12); intro gb502 hg w18 hbox hb; have n0_ := Aside0.mk (below_step zcd_4 hb); have n1_ := Aside0.mk (hbox); have n2_ := Aside0.mk ((zcd_20 : w.heap.size ≤ gb502)); have n3_ := Aside0.mk ((zcd_20 : w.heap.size ≤ gb502)); clear HB; have HB := n0_; have BK502 := n1_; have GW502 := n2_; have GE502 := n3_; clear n0_ n1_ n2_ n3_; clear hb hbox hg; have hcz19_0 : w18.cell? ⟨gb502, 0, none⟩ = some (.int .i64 0) := (blk_cell BK502.out 0).trans rfl; have hcz19_1 : w18.cell? ⟨gb502, 1, none⟩ = some (.int .i64 0) := (blk_cell BK502.out 1).trans rfl; have hcz19_2 : w18.cell? ⟨gb502, 2, none⟩ = some (.int .i64 0) := (blk_cell BK502.out 2).trans rfl; have hcz19_3 : w18.cell? ⟨gb502, 3, none⟩ = some (.string (⟨#[]⟩ : ByteArray)) := (blk_cell BK502.out 3).trans rfl; have hfz19_0 := blk_frozen BK502.out 0; have hfz19_1 := blk_frozen BK502.out 1; have hfz19_2 := blk_frozen BK502.out 2; have hfz19_3 := blk_frozen BK502.out 3) | ((with_reducible refine gate_callee (f := 13) rfl ?_); refine goesL_ (some 13) rfl rfl Tryd.func13 (by kernel_rfl) rfl #[.agg #[.int .i64 t498, .int .i64 t499, .int .i64 t500, .string t501]] rfl zcd_3 ?_; (with_reducible refine (impl_DeedText.calls t498 t499 t500 t501 t503 _ A4.out).mono ?_); rintro e w20 ⟨rfl, hb⟩; refine ⟨_, rfl, ?_⟩; have n0_ := Aside0.mk (blk_below (g := gb502) (o := .cells #[.int .i64 t498, .int .i64 t499, .int .i64 t500, .string t501] 30 (0, 0)) zcd_101 hb); have n1_ := Aside0.mk (below_step zcd_34 hb); clear BK502; clear HB; have BK502 := n0_; have HB := n1_; clear n0_ n1_; (try clear hb); (try clear hb2); (try clear hk); (try clear hi); have hcz21_0 : w20.cell? ⟨gb502, 0, none⟩ = some (.int .i64 t498) := (blk_cell BK502.out 0).trans rfl; have hcz21_1 : w20.cell? ⟨gb502, 1, none⟩ = some (.int .i64 t499) := (blk_cell BK502.out 1).trans rfl; have hcz21_2 : w20.cell? ⟨gb502, 2, none⟩ = some (.int .i64 t500) := (blk_cell BK502.out 2).trans rfl; have hcz21_3 : w20.cell? ⟨gb502, 3, none⟩ = some (.string t501) := (blk_cell BK502.out 3).trans rfl; have hfz21_0 := blk_frozen BK502.out 0; have hfz21_1 := blk_frozen BK502.out 1; have hfz21_2 := blk_frozen BK502.out 2; have hfz21_3 := blk_frozen BK502.out 3) | ((with_reducible refine gate_callee (f := 14) rfl ?_); refine goesL_ (some 16) rfl rfl Tryd.func14 (by kernel_rfl) rfl #[.agg #[.int .i64 t498, .int .i64 t499, .int .i64 t500, .string t501]] rfl zcd_3 ?_; (with_reducible refine (spec_DeedText.calls k t498 t499 t500 t501 t504 _ A5.out).mono ?_); rintro e w22 ⟨rfl, hb⟩; refine ⟨_, rfl, ?_⟩; have n0_ := Aside0.mk (blk_below (g := gb502) (o := .cells #[.int .i64 t498, .int .i64 t499, .int .i64 t500, .string t501] 30 (0, 0)) zcd_50 hb); have n1_ := Aside0.mk (below_step zcd_34 hb); clear BK502; clear HB; have BK502 := n0_; have HB := n1_; clear n0_ n1_; (try clear hb); (try clear hb2); (try clear hk); (try clear hi)) | ((with_reducible refine gate_callee (f := 16) rfl ?_); refine goesL_ (some 23) rfl rfl Tryd.func16 (by kernel_rfl) rfl #[.string t503] rfl zcd_3 ?_; (with_reducible refine (impl_ReadDeed.calls t503 t506 t507 t508 t509 true _ ?side1 A15.out).mono ?_); (case side1 => exact zcd_160); rintro e w23 ⟨rfl, hb⟩; refine ⟨_, rfl, ?_⟩; have n0_ := Aside0.mk (blk_below (g := gb502) (o := .cells #[.int .i64 t498, .int .i64 t499, .int .i64 t500, .string t501] 30 (0, 0)) zcd_50 hb); have n1_ := Aside0.mk (below_step zcd_34 hb); clear BK502; clear HB; have BK502 := n0_; have HB := n1_; clear n0_ n1_; (try clear hb); (try clear hb2); (try clear hk); (try clear hi)) | ((with_reducible refine gate_dst (N := 5) rfl ?_); refine box_event ?hg (N := 5) ?hd (cs := #[.int .i64 0, .int .i64 0, .int .i64 0, .string (⟨#[]⟩ : ByteArray)]) (t := 30) ?hr ?_; (case hd => rfl); (case hg => rfl); (case hr => exact zcd_12); intro gb511 hg w24 hbox hb; have n0_ := Aside0.mk (blk_below (g := gb502) (o := .cells #[.int .i64 t498, .int .i64 t499, .int .i64 t500, .string t501] 30 (0, 0)) zcd_50 hb); have n1_ := Aside0.mk (below_step zcd_34 hb); have n2_ := Aside0.mk (hbox); have n3_ := Aside0.mk ((zcd_102 : w.heap.size ≤ gb511)); have n4_ := Aside0.mk ((zcd_102 : w.heap.size ≤ gb511)); have n5_ := Aside0.mk ((zcd_161 : gb502 ≠ gb511)); have n6_ := Aside0.mk ((zcd_162 : gb511 ≠ gb502)); clear BK502; clear HB; have BK502 := n0_; have HB := n1_; have BK511 := n2_; have GW511 := n3_; have GE511 := n4_; have NB502_511 := n5_; have NB511_502 := n6_; clear n0_ n1_ n2_ n3_ n4_ n5_ n6_; clear hb hbox hg; have hnb25 := NB511_502.out; have hnc25 := NB502_511.out; have hcz26_0 : w24.cell? ⟨gb511, 0, none⟩ = some (.int .i64 0) := (blk_cell BK511.out 0).trans rfl; have hcz26_1 : w24.cell? ⟨gb511, 1, none⟩ = some (.int .i64 0) := (blk_cell BK511.out 1).trans rfl; have hcz26_2 : w24.cell? ⟨gb511, 2, none⟩ = some (.int .i64 0) := (blk_cell BK511.out 2).trans rfl; have hcz26_3 : w24.cell? ⟨gb511, 3, none⟩ = some (.string (⟨#[]⟩ : ByteArray)) := (blk_cell BK511.out 3).trans rfl; have hfz26_0 := blk_frozen BK511.out 0; have hfz26_1 := blk_frozen BK511.out 1; have hfz26_2 := blk_frozen BK511.out 2; have hfz26_3 := blk_frozen BK511.out 3; have hcz27_0 : w24.cell? ⟨gb502, 0, none⟩ = some (.int .i64 t498) := (blk_cell BK502.out 0).trans rfl; have hcz27_1 : w24.cell? ⟨gb502, 1, none⟩ = some (.int .i64 t499) := (blk_cell BK502.out 1).trans rfl; have hcz27_2 : w24.cell? ⟨gb502, 2, none⟩ = some (.int .i64 t500) := (blk_cell BK502.out 2).trans rfl; have hcz27_3 : w24.cell? ⟨gb502, 3, none⟩ = some (.string t501) := (blk_cell BK502.out 3).trans rfl; have hfz27_0 := blk_frozen BK502.out 0; have hfz27_1 := blk_frozen BK502.out 1; have hfz27_2 := blk_frozen BK502.out 2; have hfz27_3 := blk_frozen BK502.out 3))
 go_ret
 exact ⟨zcd_13, zcd_163⟩
 }
 {
 replace c16 := Bool.eq_false_iff.mpr c16
 subst c16
 rw [if_neg (show ¬ (false = true) by decide)] at H
 obtain rfl := Option.some.inj H
 go_enter Tryd.func4, Tryd.ntmps4
 go_wp2_with (first | ((with_reducible refine gate_callee (f := 12) rfl ?_); refine goesL_ (some 11) rfl rfl Tryd.func12 (by kernel_rfl) rfl #[.slice A0 l0.length c0] rfl zcd_3 ?_; (with_reducible refine (spec_DrawDeedText.calls k _ _ l0 t498 t499 t500 t501 _ ?side1 ?side2 A3.out).mono ?_); (case side1 => exact zcd_52); (case side2 => exact HC0.out); rintro e w28 ⟨rfl, hb⟩; refine ⟨_, rfl, ?_⟩; have n0_ := Aside0.mk (below_step zcd_4 hb); clear HB; have HB := n0_; clear n0_; (try clear hb); (try clear hb2); (try clear hk); (try clear hi)) | ((with_reducible refine gate_dst (N := 3) rfl ?_); refine box_event ?hg (N := 3) ?hd (cs := #[.int .i64 0, .int .i64 0, .int .i64 0, .string (⟨#[]⟩ : ByteArray)]) (t := 30) ?hr ?_; (case hd => rfl); (case hg => rfl); (case hr => exact zcd_12); intro gb502 hg w29 hbox hb; have n0_ := Aside0.mk (below_step zcd_4 hb); have n1_ := Aside0.mk (hbox); have n2_ := Aside0.mk ((zcd_20 : w.heap.size ≤ gb502)); have n3_ := Aside0.mk ((zcd_20 : w.heap.size ≤ gb502)); clear HB; have HB := n0_; have BK502 := n1_; have GW502 := n2_; have GE502 := n3_; clear n0_ n1_ n2_ n3_; clear hb hbox hg; have hcz30_0 : w29.cell? ⟨gb502, 0, none⟩ = some (.int .i64 0) := (blk_cell BK502.out 0).trans rfl; have hcz30_1 : w29.cell? ⟨gb502, 1, none⟩ = some (.int .i64 0) := (blk_cell BK502.out 1).trans rfl; have hcz30_2 : w29.cell? ⟨gb502, 2, none⟩ = some (.int .i64 0) := (blk_cell BK502.out 2).trans rfl; have hcz30_3 : w29.cell? ⟨gb502, 3, none⟩ = some (.string (⟨#[]⟩ : ByteArray)) := (blk_cell BK502.out 3).trans rfl; have hfz30_0 := blk_frozen BK502.out 0; have hfz30_1 := blk_frozen BK502.out 1; have hfz30_2 := blk_frozen BK502.out 2; have hfz30_3 := blk_frozen BK502.out 3) | ((with_reducible refine gate_callee (f := 13) rfl ?_); refine goesL_ (some 13) rfl rfl Tryd.func13 (by kernel_rfl) rfl #[.agg #[.int .i64 t498, .int .i64 t499, .int .i64 t500, .string t501]] rfl zcd_3 ?_; (with_reducible refine (impl_DeedText.calls t498 t499 t500 t501 t503 _ A4.out).mono ?_); rintro e w31 ⟨rfl, hb⟩; refine ⟨_, rfl, ?_⟩; have n0_ := Aside0.mk (blk_below (g := gb502) (o := .cells #[.int .i64 t498, .int .i64 t499, .int .i64 t500, .string t501] 30 (0, 0)) zcd_101 hb); have n1_ := Aside0.mk (below_step zcd_34 hb); clear BK502; clear HB; have BK502 := n0_; have HB := n1_; clear n0_ n1_; (try clear hb); (try clear hb2); (try clear hk); (try clear hi); have hcz32_0 : w31.cell? ⟨gb502, 0, none⟩ = some (.int .i64 t498) := (blk_cell BK502.out 0).trans rfl; have hcz32_1 : w31.cell? ⟨gb502, 1, none⟩ = some (.int .i64 t499) := (blk_cell BK502.out 1).trans rfl; have hcz32_2 : w31.cell? ⟨gb502, 2, none⟩ = some (.int .i64 t500) := (blk_cell BK502.out 2).trans rfl; have hcz32_3 : w31.cell? ⟨gb502, 3, none⟩ = some (.string t501) := (blk_cell BK502.out 3).trans rfl; have hfz32_0 := blk_frozen BK502.out 0; have hfz32_1 := blk_frozen BK502.out 1; have hfz32_2 := blk_frozen BK502.out 2; have hfz32_3 := blk_frozen BK502.out 3) | ((with_reducible refine gate_callee (f := 14) rfl ?_); refine goesL_ (some 16) rfl rfl Tryd.func14 (by kernel_rfl) rfl #[.agg #[.int .i64 t498, .int .i64 t499, .int .i64 t500, .string t501]] rfl zcd_3 ?_; (with_reducible refine (spec_DeedText.calls k t498 t499 t500 t501 t504 _ A5.out).mono ?_); rintro e w33 ⟨rfl, hb⟩; refine ⟨_, rfl, ?_⟩; have n0_ := Aside0.mk (blk_below (g := gb502) (o := .cells #[.int .i64 t498, .int .i64 t499, .int .i64 t500, .string t501] 30 (0, 0)) zcd_50 hb); have n1_ := Aside0.mk (below_step zcd_34 hb); clear BK502; clear HB; have BK502 := n0_; have HB := n1_; clear n0_ n1_; (try clear hb); (try clear hb2); (try clear hk); (try clear hi)) | ((with_reducible refine gate_callee (f := 16) rfl ?_); refine goesL_ (some 23) rfl rfl Tryd.func16 (by kernel_rfl) rfl #[.string t503] rfl zcd_3 ?_; (with_reducible refine (impl_ReadDeed.calls t503 t506 t507 t508 t509 false _ ?side1 A15.out).mono ?_); (case side1 => exact zcd_160); rintro e w34 ⟨rfl, hb⟩; refine ⟨_, rfl, ?_⟩; have n0_ := Aside0.mk (blk_below (g := gb502) (o := .cells #[.int .i64 t498, .int .i64 t499, .int .i64 t500, .string t501] 30 (0, 0)) zcd_50 hb); have n1_ := Aside0.mk (below_step zcd_34 hb); clear BK502; clear HB; have BK502 := n0_; have HB := n1_; clear n0_ n1_; (try clear hb); (try clear hb2); (try clear hk); (try clear hi)) | ((with_reducible refine gate_dst (N := 5) rfl ?_); refine box_event ?hg (N := 5) ?hd (cs := #[.int .i64 0, .int .i64 0, .int .i64 0, .string (⟨#[]⟩ : ByteArray)]) (t := 30) ?hr ?_; (case hd => rfl); (case hg => rfl); (case hr => exact zcd_12); intro gb511 hg w35 hbox hb; have n0_ := Aside0.mk (blk_below (g := gb502) (o := .cells #[.int .i64 t498, .int .i64 t499, .int .i64 t500, .string t501] 30 (0, 0)) zcd_50 hb); have n1_ := Aside0.mk (below_step zcd_34 hb); have n2_ := Aside0.mk (hbox); have n3_ := Aside0.mk ((zcd_102 : w.heap.size ≤ gb511)); have n4_ := Aside0.mk ((zcd_102 : w.heap.size ≤ gb511)); have n5_ := Aside0.mk ((zcd_161 : gb502 ≠ gb511)); have n6_ := Aside0.mk ((zcd_162 : gb511 ≠ gb502)); clear BK502; clear HB; have BK502 := n0_; have HB := n1_; have BK511 := n2_; have GW511 := n3_; have GE511 := n4_; have NB502_511 := n5_; have NB511_502 := n6_; clear n0_ n1_ n2_ n3_ n4_ n5_ n6_; clear hb hbox hg; have hnb36 := NB511_502.out; have hnc36 := NB502_511.out; have hcz37_0 : w35.cell? ⟨gb511, 0, none⟩ = some (.int .i64 0) := (blk_cell BK511.out 0).trans rfl; have hcz37_1 : w35.cell? ⟨gb511, 1, none⟩ = some (.int .i64 0) := (blk_cell BK511.out 1).trans rfl; have hcz37_2 : w35.cell? ⟨gb511, 2, none⟩ = some (.int .i64 0) := (blk_cell BK511.out 2).trans rfl; have hcz37_3 : w35.cell? ⟨gb511, 3, none⟩ = some (.string (⟨#[]⟩ : ByteArray)) := (blk_cell BK511.out 3).trans rfl; have hfz37_0 := blk_frozen BK511.out 0; have hfz37_1 := blk_frozen BK511.out 1; have hfz37_2 := blk_frozen BK511.out 2; have hfz37_3 := blk_frozen BK511.out 3))
 go_ret
 exact ⟨zcd_13, zcd_163⟩
 }
 }
 }
 {
 rw [if_neg c6] at H
 have c6b0 : (t503.toList == t504.toList) = false := beq_eq_false_iff_ne.mpr c6
 have c6b1 : (t503.toList != t504.toList) = true := bne_iff_ne.mpr c6
 obtain rfl := Option.some.inj H
 go_enter Tryd.func4, Tryd.ntmps4
 go_wp2_with (first | ((with_reducible refine gate_callee (f := 12) rfl ?_); refine goesL_ (some 11) rfl rfl Tryd.func12 (by kernel_rfl) rfl #[.slice A0 l0.length c0] rfl zcd_3 ?_; (with_reducible refine (spec_DrawDeedText.calls k _ _ l0 t498 t499 t500 t501 _ ?side1 ?side2 A3.out).mono ?_); (case side1 => exact zcd_52); (case side2 => exact HC0.out); rintro e w38 ⟨rfl, hb⟩; refine ⟨_, rfl, ?_⟩; have n0_ := Aside0.mk (below_step zcd_4 hb); clear HB; have HB := n0_; clear n0_; (try clear hb); (try clear hb2); (try clear hk); (try clear hi)) | ((with_reducible refine gate_dst (N := 3) rfl ?_); refine box_event ?hg (N := 3) ?hd (cs := #[.int .i64 0, .int .i64 0, .int .i64 0, .string (⟨#[]⟩ : ByteArray)]) (t := 30) ?hr ?_; (case hd => rfl); (case hg => rfl); (case hr => exact zcd_12); intro gb502 hg w39 hbox hb; have n0_ := Aside0.mk (below_step zcd_4 hb); have n1_ := Aside0.mk (hbox); have n2_ := Aside0.mk ((zcd_20 : w.heap.size ≤ gb502)); have n3_ := Aside0.mk ((zcd_20 : w.heap.size ≤ gb502)); clear HB; have HB := n0_; have BK502 := n1_; have GW502 := n2_; have GE502 := n3_; clear n0_ n1_ n2_ n3_; clear hb hbox hg; have hcz40_0 : w39.cell? ⟨gb502, 0, none⟩ = some (.int .i64 0) := (blk_cell BK502.out 0).trans rfl; have hcz40_1 : w39.cell? ⟨gb502, 1, none⟩ = some (.int .i64 0) := (blk_cell BK502.out 1).trans rfl; have hcz40_2 : w39.cell? ⟨gb502, 2, none⟩ = some (.int .i64 0) := (blk_cell BK502.out 2).trans rfl; have hcz40_3 : w39.cell? ⟨gb502, 3, none⟩ = some (.string (⟨#[]⟩ : ByteArray)) := (blk_cell BK502.out 3).trans rfl; have hfz40_0 := blk_frozen BK502.out 0; have hfz40_1 := blk_frozen BK502.out 1; have hfz40_2 := blk_frozen BK502.out 2; have hfz40_3 := blk_frozen BK502.out 3) | ((with_reducible refine gate_callee (f := 13) rfl ?_); refine goesL_ (some 13) rfl rfl Tryd.func13 (by kernel_rfl) rfl #[.agg #[.int .i64 t498, .int .i64 t499, .int .i64 t500, .string t501]] rfl zcd_3 ?_; (with_reducible refine (impl_DeedText.calls t498 t499 t500 t501 t503 _ A4.out).mono ?_); rintro e w41 ⟨rfl, hb⟩; refine ⟨_, rfl, ?_⟩; have n0_ := Aside0.mk (blk_below (g := gb502) (o := .cells #[.int .i64 t498, .int .i64 t499, .int .i64 t500, .string t501] 30 (0, 0)) zcd_101 hb); have n1_ := Aside0.mk (below_step zcd_34 hb); clear BK502; clear HB; have BK502 := n0_; have HB := n1_; clear n0_ n1_; (try clear hb); (try clear hb2); (try clear hk); (try clear hi); have hcz42_0 : w41.cell? ⟨gb502, 0, none⟩ = some (.int .i64 t498) := (blk_cell BK502.out 0).trans rfl; have hcz42_1 : w41.cell? ⟨gb502, 1, none⟩ = some (.int .i64 t499) := (blk_cell BK502.out 1).trans rfl; have hcz42_2 : w41.cell? ⟨gb502, 2, none⟩ = some (.int .i64 t500) := (blk_cell BK502.out 2).trans rfl; have hcz42_3 : w41.cell? ⟨gb502, 3, none⟩ = some (.string t501) := (blk_cell BK502.out 3).trans rfl; have hfz42_0 := blk_frozen BK502.out 0; have hfz42_1 := blk_frozen BK502.out 1; have hfz42_2 := blk_frozen BK502.out 2; have hfz42_3 := blk_frozen BK502.out 3) | ((with_reducible refine gate_callee (f := 14) rfl ?_); refine goesL_ (some 16) rfl rfl Tryd.func14 (by kernel_rfl) rfl #[.agg #[.int .i64 t498, .int .i64 t499, .int .i64 t500, .string t501]] rfl zcd_3 ?_; (with_reducible refine (spec_DeedText.calls k t498 t499 t500 t501 t504 _ A5.out).mono ?_); rintro e w43 ⟨rfl, hb⟩; refine ⟨_, rfl, ?_⟩; have n0_ := Aside0.mk (blk_below (g := gb502) (o := .cells #[.int .i64 t498, .int .i64 t499, .int .i64 t500, .string t501] 30 (0, 0)) zcd_50 hb); have n1_ := Aside0.mk (below_step zcd_34 hb); clear BK502; clear HB; have BK502 := n0_; have HB := n1_; clear n0_ n1_; (try clear hb); (try clear hb2); (try clear hk); (try clear hi)))
 go_ret
 exact ⟨zcd_13, zcd_34⟩
 }
 }
end Go.Proofs.YtnkfbappnpnaoaaDoor.Q
namespace Go.Proofs.YtnkfbappnpnaoaaDoor.Q
open Go.RowKit Go.Proofs.YtnkfbappnpnaoaaDoorW.PrintWords Go.Proofs.YtnkfbappnpnaoaaDoorW.PrintLast Go.Proofs.YtnkfbappnpnaoaaDoorW.PrintMore
attribute [local go_sem] max2_int min2_int max_two min_two max_three min_three max_four min_four   -- for this text's walks alone
set_option linter.unusedVariables false
set_option linter.unusedSimpArgs false
theorem dText_size (k a b : Int) (z : ByteArray) : (dText k a b z).size ≤ z.size + 12 := by
  have e0 : (⟨#[]⟩ : ByteArray).size = 0 := rfl
  have s5 : (⟨#[98, 111, 100, 121, 32]⟩ : ByteArray).size = 5 := rfl
  have s4 : (⟨#[114, 117, 108, 101, 32]⟩ : ByteArray).size = 5 := rfl
  have s6 : (⟨#[97, 109, 101, 110, 100, 32]⟩ : ByteArray).size = 6 := rfl
  have s7 : (⟨#[100, 114, 111, 112, 32]⟩ : ByteArray).size = 5 := rfl
  have s8 : (⟨#[32]⟩ : ByteArray).size = 1 := rfl
  have s9 : (⟨#[98, 97, 99, 107]⟩ : ByteArray).size = 4 := rfl
  unfold dText
  split
  · omega
  rename_i hr
  have hr := Classical.not_not.1 hr
  have h1 := numB_size a hr.1 hr.2.1
  have h2 := numB_size b hr.2.2.1 hr.2.2.2
  split
  · rw [app_size]; omega
  split
  · rw [app_size]; omega
  split
  · simp only [app_size]; omega
  split
  · simp only [app_size]; omega
  split
  · omega
  · omega
theorem deedText_tot (k a b : Int) (z : ByteArray) (hz : z.size < 4294967281) : Tot (fun n => spec_DeedText.f n k a b z) (fun t => t = dText k a b z) := Tot.ev (specDeedText_ev k a b z hz) rfl
theorem drawDeedText_tot {l : List Int} (hl : ∀ x ∈ l, 0 ≤ x ∧ x ≤ 255) : Tot (fun k => spec_DrawDeedText.f k l) (fun r => r.2.2.2.size ≤ 45) := by
  obtain ⟨b, hb, hB⟩ := open_tot hl
  unfold spec_DrawDeedText.f
  simp only [hb, Option.bind_some]
  refine Tot.bind (place_draw hB (Int.le_refl _) (by omega)) ?_
  rintro ⟨people, bs, rs, q⟩ ⟨⟨hp, hbl, hbs, hrl, _⟩, hq0, hq1⟩
  simp only at hp hbl hbs hrl hq0 hq1 ⊢
  refine Tot.bind (deed_draw hB people bs rs (bodies_of hbl.2 hbs) (by omega) (by omega) (by omega)) ?_
  rintro ⟨k0, a, b2, z, q2⟩ ⟨hz, _, _⟩
  exact Tot.pure hz
theorem alive_eq : laws_alive.f = some true := by decide +kernel
theorem law_FnDeedText (l : List Int) (hl : ∀ x ∈ l, 0 ≤ x ∧ x ≤ 255) : Ev (fun k => laws_FnDeedText.f k l) true := by
  refine Tot.eq ?_
  unfold laws_FnDeedText.f
  refine Tot.ite (fun _ => Tot.pure rfl) (fun _ => Tot.bind (drawDeedText_tot hl) ?_)
  rintro ⟨k0, a, b, z⟩ hz
  have hz : z.size ≤ 45 := hz
  simp only [impl_DeedText.f, deedTextM_eq k0 a b z (by omega), Option.bind_some]
  refine Tot.bind (deedText_tot k0 a b z (by omega)) ?_
  rintro t rfl
  refine Tot.yes (by trivial) (Tot.ite (fun _ => by rw [alive_eq]; exact Tot.pure rfl) (fun hne => ?_))
  have hs := dText_size k0 a b z
  have hR := readDeed_hit k0 a b z _ (by omega) rfl hne (by omega)
  simp only [impl_ReadDeed.f, hR, Option.bind_some]
  exact Tot.yes (by trivial) (Tot.pure (by simp))
end Go.Proofs.YtnkfbappnpnaoaaDoor.Q
namespace Go.Proofs.YtnkfbappnpnaoaaDoor.Q
open Go.RowKit Go.Proofs.YtnkfbappnpnaoaaDoorW.PrintWords Go.Proofs.YtnkfbappnpnaoaaDoorW.PrintLast Go.Proofs.YtnkfbappnpnaoaaDoorW.PrintMore
attribute [local go_sem] max2_int min2_int max_two min_two max_three min_three max_four min_four   -- for this text's walks alone
set_option linter.unusedVariables false
set_option linter.unusedSimpArgs false
theorem laid_at {P : Program} {w : World} : ∀ {l : List (String × DataW Unit)} {ps : List MemPlace} (i : Nat) {n : String} {d : DataW Unit}, DataW.LaidVars P w l ps → l[i]? = some (n, d) →
    ∃ g t cs fuel p, P.globalNamed n = some g ∧ (P.globals[g]?).map (·.type) = some t ∧ w.var? P n = some cs ∧ DataW.trod (fun _ => ()) P w 0 (fun _ => true) false fuel t cs.toList = some (d, p)
  | [], _, i, _, _, _, h => by simp at h
  | (n', d') :: r, ps, 0, n, d, hl, h => by
    obtain ⟨g, t, cs, fuel, p, q, h1, h2, h3, h4, _, _⟩ := hl
    simp at h
    obtain ⟨rfl, rfl⟩ := h
    exact ⟨g, t, cs, fuel, p, h1, h2, h3, h4⟩
  | (n', d') :: r, ps, i + 1, n, d, hl, h => by
    obtain ⟨g, t, cs, fuel, p, q, h1, h2, h3, h4, h5, _⟩ := hl
    exact laid_at i h5 (by simpa using h)
end Go.Proofs.YtnkfbappnpnaoaaDoor.Q
namespace Go.Proofs.YtnkfbappnpnaoaaDoor.Q
open Go.RowKit Go.Proofs.YtnkfbappnpnaoaaDoorW.PrintWords Go.Proofs.YtnkfbappnpnaoaaDoorW.PrintLast Go.Proofs.YtnkfbappnpnaoaaDoorW.PrintMore
attribute [local go_sem] max2_int min2_int max_two min_two max_three min_three max_four min_four   -- for this text's walks alone
set_option linter.unusedVariables false
set_option linter.unusedSimpArgs false
theorem tab_at {P : Program} {W : World} {name : String} {k : IntKind} {zs : List Int} {l : List (String × DataW Unit)} (i : Nat) {ps : List MemPlace} {g : Nat} {t e : TypeId} {n : Nat}
    (hl : DataW.LaidVars P W l ps) (hi : l[i]? = some (name, Lib.tabData k zs))
    (hg : P.globalNamed name = some g) (hty : (P.globals[g]?).map (·.type) = some t) (ht : P.underlying t = some (.array n e)) (he : P.underlying e = some (.int k)) (hce : P.cellsOf e = 1) (hct : P.cellsOf t = n) : Lib.TabIs P W name k zs := by
  obtain ⟨g', t', cs, fuel, p, hg', ht', hvar, hd⟩ := laid_at i hl hi
  obtain rfl := Option.some.inj (hg.symm.trans hg')
  obtain rfl := Option.some.inj (hty.symm.trans ht')
  unfold Lib.TabIs
  rw [hvar, ← Lib.cells_of_tab ht he hce hct hd]
theorem iface_at {P : Program} {W : World} {name tn : String} {d : DataW Unit} {l : List (String × DataW Unit)} (i : Nat) {ps : List MemPlace} {g : Nat} {t : TypeId} {ms : Array (String × TypeId)}
    (hl : DataW.LaidVars P W l ps) (hi : l[i]? = some (name, .iface tn d)) (hg : P.globalNamed name = some g) (hty : (P.globals[g]?).map (·.type) = some t) (ht : P.underlying t = some (.interface ms)) : ∃ te pe, W.cell? ⟨g, 0, none⟩ = some (.iface te pe) := by
  obtain ⟨g', t', cs, fuel, p, hg', ht', hvar, hd⟩ := laid_at i hl hi
  obtain rfl := Option.some.inj (hg.symm.trans hg')
  obtain rfl := Option.some.inj (hty.symm.trans ht')
  obtain ⟨_, u, v, hcs, _, _⟩ := iface_of_trod ht hd
  refine ⟨u, v, ?_⟩
  have := World.var?_cell hg hvar 0
  rw [this, ← Array.getElem?_toList, hcs]
  rfl
theorem glob_of {W : World} {l : List (String × DataW Unit)} (hL : laidMet Tryd.prog l W) (hsh : W.ShapedOpen Tryd.prog)
    (h2 : l[2]? = some ("internal/strconv.uint64pow10", Lib.tabData .u64 Lib.pow10Tab)) (h4 : ∃ d, l[4]? = some ("strconv.ErrRange", .iface "*errors.errorString" d)) (h5 : ∃ d, l[5]? = some ("strconv.ErrSyntax", .iface "*errors.errorString" d)) : Glob W := by
  obtain ⟨ps, hl, _⟩ := hL
  obtain ⟨d4, h4⟩ := h4
  obtain ⟨d5, h5⟩ := h5
  refine ⟨?_, ?_, ?_, ?_⟩
  · exact Go.Proofs.cell_of_shapedOpen_int (zero := #[.int .i64 0]) (t := 3) hsh (of_decide_eq_true (by kernel_rfl)) (by kernel_rfl) rfl (by kernel_rfl) (by kernel_rfl) Tryd.underlying3
  · exact tab_at (t := 118) (e := 101) (n := 20) 2 hl h2 gPow (by kernel_rfl) Tryd.underlying118 Tryd.underlying101 (by kernel_rfl) (by kernel_rfl)
  · exact iface_at 5 hl h5 (by kernel_rfl) (t := 82) (by kernel_rfl) Tryd.underlying82
  · exact iface_at 4 hl h4 (by kernel_rfl) (t := 82) (by kernel_rfl) Tryd.underlying82
end Go.Proofs.YtnkfbappnpnaoaaDoor.Q
